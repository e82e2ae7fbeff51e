/- Walks. -/
import Derived.Test.YtoodaakcfelaaaaGreatBase
import Derived.Test.YtoodaakcfelaaaaGreatPf3
import Derived.Test.YtoodaakcfelaaaaGreatWsrun4
namespace Go.Ab
open Go.Proofs
set_option maxRecDepth 100000
set_option maxHeartbeats 8000000
set_option linter.unusedSimpArgs false
set_option linter.unusedVariables false
theorem f_runY (l : List Con) (ss : List Stp) (E : Db) (h : runV l ss = some E) : Fn Tryz.prog 145 [.sl (l.map dC), .sl (ss.map dStp)] [] (fun rr ii nn => rr = .tup [.ptr 0 0 0, .p (.int .i64 (-1))] ∧ ii = [] ∧ nn = [.box 170 [.own 1 0, .own 2 0], .row 69 2 ((E.1).map dC), .row 4 1 ((E.2).map dB)]) := by
 refine qjl Tryz.func145 rfl (nb rfl) fun w X g => ?_
 show AWp _ _ _ ⟨[(0, .sl (l.map dC)), (1, .sl (ss.map dStp))], []⟩
 obtain ⟨hpo, hsl, hrun⟩ := runV_parts h
 have hrp := runI_0 (ss := ss) hpo
 have hln := pOk_len hpo
 refine rs (oa rfl (oa rfl (on (qqf (rs (om rfl ?_))))))
 refine qq0 (qqn (v := .p _) (hp1 := []) [] false [] ent69 (f_pvImpl l) ⟨.inl ⟨rfl, rfl⟩, trivial⟩ trivial rfl rfl (fun h => by cases h) rfl (fun _ h => by cases h) (.inl rfl) rfl rfl) ?_
 refine qqa (qzk rfl) (om rfl (qqz 12 rfl (fun h1 => ?_) (fun h1 => ?_)))
 ·
  have h1r := h1
  try simp only [nq, nr, nl] at h1
  exact absurd h1r (by rw [hpo]; decide)
 have h1r := h1
 try simp only [nq, nr, nl] at h1
 refine qqa (qqd rfl rfl h1r (qqj (evo rfl))) (qqa (qqd rfl rfl h1r (qqw Tryz.underlying34 rfl)) (qqa (qqd rfl rfl h1r (j_gt rfl rfl)) (qqa (qqy rfl h1r (evo rfl)) (on (ac rfl (fun h2 => ?_) fun h2 => ?_)))))
 ·
  have h2r := h2
  try simp only [nq, nr, nl] at h2
  exact absurd h2r (by first | (rw [hpo]; decide) | (simp; omega))
 have h2r := h2
 try simp only [nq, nr, nl] at h2
 refine qqo (qqf (qj3 qzr (by kernel_rfl) (by kernel_rfl) fun vf => ?_))
 refine qql (qqj (evo rfl)) ?_
 refine d_n1' (fun ver => qza (v := .own 18 ver) (hp1 := [(18, some (ver, .row 69 2 _))]) [] false [] ent57 (f_cloneC l (by omega)) ⟨.inl ⟨rfl, rfl⟩, trivial⟩ trivial rfl rfl rfl (fun h => by cases h) rfl (List.all_eq_true.1 rfl) (.inl rfl) rfl rfl) ?_
 refine qql (qqj (evo rfl)) (qql (qqw Tryz.underlying30 rfl) (d_n' (fun ver => j_make (n := l.length) qzm elt4 rfl rfl (by decide) rfl rfl rfl rfl zz (by rw [qqu]; first | omega | (simp only [nr, nl]; omega))) ?_))
 refine qql (qjp (parts := [(0, .tmp 18), (1, .tmp 21)]) str170 elt170 rfl rfl) (d_n' (fun ver => qzg rfl) ?_)
 refine qql (qj6 (evo rfl)) (qzf (by kernel_rfl) (by kernel_rfl) ?_)
 refine qqf (rs (om rfl (qqa (qqw Tryz.underlying34 rfl) (om rfl (on (qqk (qq4 (ι := Nat × Db × Nat × Nat) (fun x => runI l ss x.1 x.2.1) (fun x r => (26, .p (.int .i64 ((x.1 : Nat)))) :: (6, .ptr 23 (vf 23) 0) :: r) (fun x r => (23, some ((vf 23), .box 170 [.own 18 x.2.2.1, .own 21 x.2.2.2])) :: (18, some (x.2.2.1, .row 69 2 ((x.2.1.1).map dC))) :: (21, some (x.2.2.2, .row 4 1 ((x.2.1.2).map dB))) :: r) (fun x => ss.length - x.1) (fun _ _ => rfl) (fun _ _ => rfl) (0, run0 l, (vf 18), (vf 21)) (by first | exact hrp | (dsimp only; exact hrp)) ⟨⟨rfl, rfl⟩, ⟨rfl, rfl, trivial⟩, ⟨rfl, rfl, qj0 (by unfold run0; dsimp only; rw [List.map_replicate]; rfl), trivial⟩, ⟨rfl, rfl⟩, ⟨rfl, rfl⟩⟩ ?_)))))))
 rintro ⟨k, D, v1, v2⟩ hi; dsimp only at hi ⊢
 refine rs (qqa (qzt rfl rfl) (on (qqf (ac rfl (fun h3 => ?_) fun h3 => ?_))))
 ·
  have h3r := h3
  try simp only [nq, nr, nl] at h3
  refine qqo (qqf (qqk (rs (om rfl (qqa (qq9 qxa rfl rfl rfl (qqq zz) rfl) (qqa (qjw (ys := [.p _, .p _, .p _, .sl _, .p _]) agg89 rfl (qqq zz) rfl (Nat.le_refl _)) (qqv (fun ver => qjd qzs rfl) fun v8x1 => ?_)))))))
  refine oa rfl (qjg (qqe agg89 rfl rfl rfl rfl rfl rfl) ?_)
  refine on (qqf ?_)
  have hi1 := hi.1
  have hid := hi.2.2.1
  have hig := hi.2.2.2.1
  have hil := hi.2.2.2.2
  refine ar (om rfl (qqa (qqg (ys := [.p _, .p _, .p _, .sl _, .p _]) agg89 rfl rfl rfl (nb rfl)) (op_call2 (v := fun ver ver2 => .p _) (hp1 := fun ver ver2 => [(23, some ((vf 23), .box 170 [.own 33 ver, .own 100033 ver2])), (18, some (v1, .gone)), (21, some (v2, .gone)), (33, some (ver, .row 69 2 _)), (100033, some (ver2, .row 4 1 _))]) [(23, (vf 23)), (18, v1), (21, v2)] false ent192 (f_step D (ss.getD k default) hid hig (by omega)) ⟨.inl ⟨rfl, rfl⟩, .inl ⟨rfl, rfl⟩, trivial⟩ ⟨⟨rfl, rfl⟩, ⟨rfl, rfl⟩, ⟨rfl, rfl⟩, trivial⟩ rfl rfl rfl rfl (.inl rfl) (fun _ _ => rfl) (fun _ _ => rfl) ?_)))
  rintro  v33x2 v100033x2
  dsimp only [List.cons_append, List.nil_append]
  refine qqa (qzk rfl) (on (ac rfl (fun h4 => ?_) fun h4 => ?_))
  ·
   have h4r := h4
   try simp only [nq, nr, nl] at h4
   exact absurd (runI_stop hi zz (by simpa using h4r)) (by rw [hrun]; exact fun e => by cases e)
  have h4r := h4
  try simp only [nq, nr, nl] at h4
  refine qqo ?_
  have hst : stpO D (ss.getD k default) = true := by simp_all
  refine ar (qqa (qjh rfl rfl zz zz) (om rfl (op_mvB (i := 33) 23 0 18 (by decide) (by decide) rfl rfl rfl rfl fun v18x3 => ?_)))
  try dsimp only [List.set]
  refine op_mvB (i := 100033) 23 1 21 (by decide) (by decide) rfl rfl rfl rfl fun v21x4 => ?_
  try dsimp only [List.set]
  refine on ?_
  exact ⟨(k + 1, stpF D (ss.getD k default), v18x3, v21x4), (by first | exact (by rw [stpF_o hst]; exact runI_next hi zz hst) | (dsimp only; exact (by rw [stpF_o hst]; exact runI_next hi zz hst))), ⟨⟨rfl, rfl⟩, ⟨rfl, rfl, trivial⟩, ⟨rfl, rfl, rfl, trivial⟩, ⟨rfl, rfl⟩, ⟨rfl, rfl⟩⟩, (by first | exact zz | (dsimp only; exact zz))⟩
 have h3r := h3
 try simp only [nq, nr, nl] at h3
 refine qjf (qqf ?_)
 have hre := runI_end hi zz
 rw [hrun] at hre
 obtain rfl : E = D := by injection hre
 refine ar (om rfl (oa rfl (oa rfl (on (qqx ?_)))))
 exact ⟨[.ptr 23 (vf 23) 0, .p _], .tup [.ptr 0 0 0, .p _], [], [.box 170 [.own 1 0, .own 2 0], .row 69 2 _, .row 4 1 _], [(23, (vf 23)), (18, v1), (21, v2)], ⟨rfl, rfl, trivial⟩, rfl, rfl, ⟨⟨rfl, rfl⟩, ⟨rfl, rfl⟩, ⟨rfl, rfl⟩, trivial⟩, rfl, rfl, ⟨rfl, rfl, rfl⟩⟩
theorem f_runN (l : List Con) (ss : List Stp) (h : runV l ss = none) : Fn Tryz.prog 145 [.sl (l.map dC), .sl (ss.map dStp)] [] (fun rr ii nn => ∃ x : Int, (0 ≤ x) ∧ rr = .tup [.p (.pointer none), .p (.int .i64 (x))] ∧ ii = [] ∧ nn = []) := by
 refine qjl Tryz.func145 rfl (nb rfl) fun w X g => ?_
 show AWp _ _ _ ⟨[(0, .sl (l.map dC)), (1, .sl (ss.map dStp))], []⟩
 refine rs (oa rfl (oa rfl (on (qqf (rs (om rfl ?_))))))
 refine qq0 (qqn (v := .p _) (hp1 := []) [] false [] ent69 (f_pvImpl l) ⟨.inl ⟨rfl, rfl⟩, trivial⟩ trivial rfl rfl (fun h => by cases h) rfl (fun _ h => by cases h) (.inl rfl) rfl rfl) ?_
 refine qqa (qzk rfl) (om rfl (qqz 12 rfl (fun h1 => ?_) (fun h1 => ?_)))
 ·
  have h1r := h1
  try simp only [nq, nr, nl] at h1
  refine qqa (qqb rfl rfl h1r) (qqa (qqb rfl rfl h1r) (qqa (qqb rfl rfl h1r) (qqa (qqr rfl h1r (evo rfl)) (on (a_tt rfl ?_)))))
  refine rs (oa rfl (oa rfl (on (qqx ?_))))
  exact ⟨[.p _, .p _], .tup [.p _, .p _], [], [], [], ⟨rfl, rfl, trivial⟩, rfl, rfl, trivial, rfl, rfl, ⟨0, Int.le_refl 0, rfl, rfl, rfl⟩⟩
 have h1r := h1
 try simp only [nq, nr, nl] at h1
 refine qqa (qqd rfl rfl h1r (qqj (evo rfl))) (qqa (qqd rfl rfl h1r (qqw Tryz.underlying34 rfl)) (qqa (qqd rfl rfl h1r (j_gt rfl rfl)) (qqa (qqy rfl h1r (evo rfl)) (on (ac rfl (fun h2 => ?_) fun h2 => ?_)))))
 ·
  have h2r := h2
  try simp only [nq, nr, nl] at h2
  refine rs (oa rfl (oa rfl (on (qqx ?_))))
  exact ⟨[.p _, .p _], .tup [.p _, .p _], [], [], [], ⟨rfl, rfl, trivial⟩, rfl, rfl, trivial, rfl, rfl, ⟨0, Int.le_refl 0, rfl, rfl, rfl⟩⟩
 have h2r := h2
 try simp only [nq, nr, nl] at h2
 refine qqo (qqf ?_)
 have hpo : pOk l = true := by simp_all
 have hsl : ss.length ≤ 1000 := by omega
 rw [runV_y hpo hsl] at h
 have hrp := runI_0 (ss := ss) hpo
 have hln := pOk_len hpo
 refine qj3 qzr (by kernel_rfl) (by kernel_rfl) fun vf => ?_
 refine qql (qqj (evo rfl)) ?_
 refine d_n1' (fun ver => qza (v := .own 18 ver) (hp1 := [(18, some (ver, .row 69 2 _))]) [] false [] ent57 (f_cloneC l (by omega)) ⟨.inl ⟨rfl, rfl⟩, trivial⟩ trivial rfl rfl rfl (fun h => by cases h) rfl (List.all_eq_true.1 rfl) (.inl rfl) rfl rfl) ?_
 refine qql (qqj (evo rfl)) (qql (qqw Tryz.underlying30 rfl) (d_n' (fun ver => j_make (n := l.length) qzm elt4 rfl rfl (by decide) rfl rfl rfl rfl zz (by rw [qqu]; first | omega | (simp only [nr, nl]; omega))) ?_))
 refine qql (qjp (parts := [(0, .tmp 18), (1, .tmp 21)]) str170 elt170 rfl rfl) (d_n' (fun ver => qzg rfl) ?_)
 refine qql (qj6 (evo rfl)) (qzf (by kernel_rfl) (by kernel_rfl) ?_)
 refine qqf (rs (om rfl (qqa (qqw Tryz.underlying34 rfl) (om rfl (on (qqk (qq4 (ι := Nat × Db × Nat × Nat) (fun x => runI l ss x.1 x.2.1) (fun x r => (26, .p (.int .i64 ((x.1 : Nat)))) :: (6, .ptr 23 (vf 23) 0) :: r) (fun x r => (23, some ((vf 23), .box 170 [.own 18 x.2.2.1, .own 21 x.2.2.2])) :: (18, some (x.2.2.1, .row 69 2 ((x.2.1.1).map dC))) :: (21, some (x.2.2.2, .row 4 1 ((x.2.1.2).map dB))) :: r) (fun x => ss.length - x.1) (fun _ _ => rfl) (fun _ _ => rfl) (0, run0 l, (vf 18), (vf 21)) (by first | exact hrp | (dsimp only; exact hrp)) ⟨⟨rfl, rfl⟩, ⟨rfl, rfl, trivial⟩, ⟨rfl, rfl, qj0 (by unfold run0; dsimp only; rw [List.map_replicate]; rfl), trivial⟩, ⟨rfl, rfl⟩, ⟨rfl, rfl⟩⟩ ?_)))))))
 rintro ⟨k, D, v1, v2⟩ hi; dsimp only at hi ⊢
 refine rs (qqa (qzt rfl rfl) (on (qqf (ac rfl (fun h3 => ?_) fun h3 => ?_))))
 ·
  have h3r := h3
  try simp only [nq, nr, nl] at h3
  refine qqo (qqf (qqk (rs (om rfl (qqa (qq9 qxa rfl rfl rfl (qqq zz) rfl) (qqa (qjw (ys := [.p _, .p _, .p _, .sl _, .p _]) agg89 rfl (qqq zz) rfl (Nat.le_refl _)) (qqv (fun ver => qjd qzs rfl) fun v8x1 => ?_)))))))
  refine oa rfl (qjg (qqe agg89 rfl rfl rfl rfl rfl rfl) ?_)
  refine on (qqf ?_)
  have hi1 := hi.1
  have hid := hi.2.2.1
  have hig := hi.2.2.2.1
  have hil := hi.2.2.2.2
  refine ar (om rfl (qqa (qqg (ys := [.p _, .p _, .p _, .sl _, .p _]) agg89 rfl rfl rfl (nb rfl)) (op_call2 (v := fun ver ver2 => .p _) (hp1 := fun ver ver2 => [(23, some ((vf 23), .box 170 [.own 33 ver, .own 100033 ver2])), (18, some (v1, .gone)), (21, some (v2, .gone)), (33, some (ver, .row 69 2 _)), (100033, some (ver2, .row 4 1 _))]) [(23, (vf 23)), (18, v1), (21, v2)] false ent192 (f_step D (ss.getD k default) hid hig (by omega)) ⟨.inl ⟨rfl, rfl⟩, .inl ⟨rfl, rfl⟩, trivial⟩ ⟨⟨rfl, rfl⟩, ⟨rfl, rfl⟩, ⟨rfl, rfl⟩, trivial⟩ rfl rfl rfl rfl (.inl rfl) (fun _ _ => rfl) (fun _ _ => rfl) ?_)))
  rintro  v33x2 v100033x2
  dsimp only [List.cons_append, List.nil_append]
  refine qqa (qzk rfl) (on (ac rfl (fun h4 => ?_) fun h4 => ?_))
  ·
   have h4r := h4
   try simp only [nq, nr, nl] at h4
   refine rs (om rfl (oa rfl (oa rfl (on (qqx ?_)))))
   exact ⟨[.p _, .p _], .tup [.p _, .p _], [], [], [], ⟨rfl, rfl, trivial⟩, rfl, rfl, trivial, rfl, rfl, ⟨(k : Nat), (by omega), rfl, rfl, rfl⟩⟩
  have h4r := h4
  try simp only [nq, nr, nl] at h4
  refine qqo ?_
  have hst : stpO D (ss.getD k default) = true := by simp_all
  refine ar (qqa (qjh rfl rfl zz zz) (om rfl (op_mvB (i := 33) 23 0 18 (by decide) (by decide) rfl rfl rfl rfl fun v18x3 => ?_)))
  try dsimp only [List.set]
  refine op_mvB (i := 100033) 23 1 21 (by decide) (by decide) rfl rfl rfl rfl fun v21x4 => ?_
  try dsimp only [List.set]
  refine on ?_
  exact ⟨(k + 1, stpF D (ss.getD k default), v18x3, v21x4), (by first | exact (by rw [stpF_o hst]; exact runI_next hi zz hst) | (dsimp only; exact (by rw [stpF_o hst]; exact runI_next hi zz hst))), ⟨⟨rfl, rfl⟩, ⟨rfl, rfl, trivial⟩, ⟨rfl, rfl, rfl, trivial⟩, ⟨rfl, rfl⟩, ⟨rfl, rfl⟩⟩, (by first | exact zz | (dsimp only; exact zz))⟩
 have h3r := h3
 try simp only [nq, nr, nl] at h3
 exact absurd (runI_end hi (by have h9 := of_decide_eq_false h3r; omega)) (by rw [h]; exact fun e => by cases e)
theorem f_refY (l : List Con) (ss : List Stp) (E : Db) (h : runV l ss = some E) (hE : invD E 1400) : Fn Tryz.prog 88 [.sl (l.map dC), .sl (ss.map dStp)] [] (fun rr ii nn => rr = .tup [.ptr 0 0 0, .p (.int .i64 (falI E))] ∧ ii = [] ∧ nn = [.box 170 [.own 1 0, .own 2 0], .row 69 2 ((E.1).map dC), .row 4 1 ((E.2).map dB)]) := by
 refine qjl Tryz.func88 rfl (nb rfl) fun w X g => ?_
 show AWp _ _ _ ⟨[(0, .sl (l.map dC)), (1, .sl (ss.map dStp))], []⟩
 have hE1 := hE.2.1
 have hE2 := hE.2.2
 refine rs (oa rfl (oa rfl (on (rs (om rfl (om rfl (op_call3 (v := fun ver ver2 ver3 => .tup [.ptr 13 ver 0, .p _]) (hp1 := fun ver ver2 ver3 => [(13, some (ver, .box 170 [.own 100013 ver2, .own 200013 ver3])), (100013, some (ver2, .row 69 2 _)), (200013, some (ver3, .row 4 1 _))]) [] false ent145 (f_runY l ss E h) ⟨.inl ⟨rfl, rfl⟩, .inl ⟨rfl, rfl⟩, trivial⟩ trivial rfl rfl rfl rfl (.inl rfl) (fun _ _ _ => rfl) (fun _ _ _ => rfl) ?_)))))))
 rintro  v13x1 v100013x1 v200013x1
 dsimp only [List.cons_append, List.nil_append]
 refine om rfl (qqa (qqt rfl rfl) (qqa (qqt rfl rfl) (oa rfl (oa rfl (on (qqf (rs (om rfl (qqa (j_ge rfl rfl) (on (ac rfl (fun h1 => ?_) fun h1 => ?_)))))))))))
 ·
  have h1r := h1
  try simp only [nq, nr, nl] at h1
  exact absurd h1r (by decide)
 have h1r := h1
 try simp only [nq, nr, nl] at h1
 refine qqo (qqf (rs (om rfl (qqa (qq1 rfl rfl) (qqa (qqi qze rfl rfl) (qqa (qqc qzn rfl rfl rfl) (qqa (qja Tryz.underlying30 rfl rfl) (om rfl (on (qqk (qq4 (ι := Nat) (fun k => k ≤ E.1.length ∧ falI E = idxF (falN E) ((List.range E.1.length).drop k) (k : Int)) (fun k r => (23, .p (.int .i64 ((k : Nat)))) :: r) (fun k r => (13, some (v13x1, .box 170 [.own 100013 v100013x1, .own 200013 v200013x1])) :: (100013, some (v100013x1, .row 69 2 ((E.1).map dC))) :: (200013, some (v200013x1, .row 4 1 ((E.2).map dB))) :: r) (fun k => E.1.length - k) (fun _ _ => rfl) (fun _ _ => rfl) 0 ⟨Nat.zero_le _, falI_start⟩ ⟨⟨rfl, rfl⟩, ⟨rfl, trivial⟩, ⟨rfl, rfl, rfl, trivial⟩, ⟨rfl, rfl⟩, ⟨rfl, rfl⟩⟩ ?_)))))))))))
 intro k hk
 refine rs (qqa (qzt rfl rfl) (on (qqf (ac rfl (fun h2 => ?_) fun h2 => ?_))))
 ·
  have h2r := h2
  try simp only [nq, nr, nl] at h2
  refine qqo (qqf (qqk (rs (om rfl (qqa (qq2 (n := k) qj7 rfl rfl rfl zz zz) (qqa (qz6 (ys := [.sl _, .p _]) qq7 rfl rfl (qqq zz) rfl (Nat.le_refl _)) (qqv (fun ver => qjd qjm rfl) fun v9x2 => ?_)))))))
  refine oa rfl (qjg (qqe qq7 rfl rfl rfl rfl rfl rfl) ?_)
  refine on (rs (om rfl (qqa (qq1 rfl rfl) (qqa (qqi qzu rfl rfl) (qqa (qqc leaf44 rfl rfl rfl) (om rfl (qqa (qq2 (n := k) qzm rfl rfl rfl zz zz) (qqa (qjo leaf4 rfl rfl (qqq zz) rfl) (qqa (qzk rfl) (om rfl (qqz 36 rfl (fun h3 => ?_) (fun h3 => ?_))))))))))))
  ·
   have h3r := h3
   try simp only [nq, nr, nl] at h3
   refine qqa (qqd rfl rfl h3r (qqg (ys := [.sl _, .p _]) qq7 rfl rfl rfl (nb rfl))) ?_
   refine qq0 (qqd rfl rfl h3r (qqn (v := .p _) (hp1 := []) [] false [] ent146 (f_falImpl (E.1.getD k default)) ⟨.inl ⟨rfl, rfl⟩, trivial⟩ trivial rfl rfl (fun h => by cases h) rfl (fun _ h => by cases h) (.inl rfl) rfl rfl)) ?_
   refine qqa (qqr rfl h3r (evo rfl)) (on (ac rfl (fun h4 => ?_) fun h4 => ?_))
   ·
    have h4r := h4
    try simp only [nq, nr, nl] at h4
    refine rs (om rfl (om rfl (oa rfl (oa rfl (on (qqx ?_))))))
    have hf := falI_hit zz hk.2 (falN_y (by assumption) (by assumption))
    exact ⟨[.ptr 13 v13x1 0, .p _], .tup [.ptr 0 0 0, .p _], [], [.box 170 [.own 1 0, .own 2 0], .row 69 2 _, .row 4 1 _], [(13, v13x1), (100013, v100013x1), (200013, v200013x1)], ⟨rfl, rfl, trivial⟩, rfl, rfl, ⟨⟨rfl, rfl⟩, ⟨rfl, rfl⟩, ⟨rfl, rfl⟩, trivial⟩, rfl, rfl, ⟨by rw [hf], rfl, rfl⟩⟩
   have h4r := h4
   try simp only [nq, nr, nl] at h4
   refine qqo (ar (qqa (qjh rfl rfl zz zz) (om rfl (on ?_))))
   exact ⟨k + 1, ⟨by first | omega | (simp only [nr, nl]; omega), falI_skip zz hk.2 (falN_n (by first | exact .inr (by assumption) | exact .inl (by assumption)))⟩, ⟨⟨rfl, rfl⟩, ⟨rfl, trivial⟩, ⟨rfl, rfl, rfl, trivial⟩, ⟨rfl, rfl⟩, ⟨rfl, rfl⟩⟩, zz⟩
  have h3r := h3
  try simp only [nq, nr, nl] at h3
  refine qqa (qqb rfl rfl h3r) (qqa (qqb rfl rfl h3r) (qqa (qqy rfl h3r (evo rfl)) (on (a_ff rfl ?_))))
  refine qqo (ar (qqa (qjh rfl rfl zz zz) (om rfl (on ?_))))
  exact ⟨k + 1, ⟨by first | omega | (simp only [nr, nl]; omega), falI_skip zz hk.2 (falN_n (by first | exact .inr (by assumption) | exact .inl (by assumption)))⟩, ⟨⟨rfl, rfl⟩, ⟨rfl, trivial⟩, ⟨rfl, rfl, rfl, trivial⟩, ⟨rfl, rfl⟩, ⟨rfl, rfl⟩⟩, zz⟩
 have h2r := h2
 try simp only [nq, nr, nl] at h2
 refine qjf (rs (om rfl (oa rfl (oa rfl (on (qqx ?_))))))
 have hf := falI_end zz hk.2
 exact ⟨[.ptr 13 v13x1 0, .p _], .tup [.ptr 0 0 0, .p _], [], [.box 170 [.own 1 0, .own 2 0], .row 69 2 _, .row 4 1 _], [(13, v13x1), (100013, v100013x1), (200013, v200013x1)], ⟨rfl, rfl, trivial⟩, rfl, rfl, ⟨⟨rfl, rfl⟩, ⟨rfl, rfl⟩, ⟨rfl, rfl⟩, trivial⟩, rfl, rfl, ⟨by rw [hf], rfl, rfl⟩⟩
theorem f_refN (l : List Con) (ss : List Stp) (h : runV l ss = none) : Fn Tryz.prog 88 [.sl (l.map dC), .sl (ss.map dStp)] [] (fun rr ii nn => rr = .tup [.p (.pointer none), .p (.int .i64 (-1))] ∧ ii = [] ∧ nn = []) := by
 refine qjl Tryz.func88 rfl (nb rfl) fun w X g => ?_
 show AWp _ _ _ ⟨[(0, .sl (l.map dC)), (1, .sl (ss.map dStp))], []⟩
 refine rs (oa rfl (oa rfl (on (rs (om rfl (om rfl (op_callE (v := fun x => .tup [.p _, .p _]) (hp1 := fun x => []) [] false ent145 (f_runN l ss h) ⟨.inl ⟨rfl, rfl⟩, .inl ⟨rfl, rfl⟩, trivial⟩ trivial rfl (fun _ => rfl) (fun _ => rfl) (.inl rfl) (fun _ => rfl) (fun _ => rfl) ?_)))))))
 rintro z13 hz13
 try dsimp only at hz13
 dsimp only [List.cons_append, List.nil_append]
 refine om rfl (qqa (qqt rfl rfl) (qqa (qqt rfl rfl) (oa rfl (oa rfl (on (qqf (rs (om rfl (qqa (j_ge rfl rfl) (on (ac rfl (fun h1 => ?_) fun h1 => ?_)))))))))))
 ·
  have h1r := h1
  try simp only [nq, nr, nl] at h1
  refine rs (oa rfl (oa rfl (on (qqx ?_))))
  exact ⟨[.p _, .p _], .tup [.p _, .p _], [], [], [], ⟨rfl, rfl, trivial⟩, rfl, rfl, trivial, rfl, rfl, ⟨rfl, rfl, rfl⟩⟩
 have h1r := h1
 try simp only [nq, nr, nl] at h1
 exact absurd (of_decide_eq_false h1r) (by omega)
theorem f_crY (l : List Con) (ss : List Stp) (E : Db) (h : runV l ss = some E) (hE : invD E 1400) : Fn Tryz.prog 35 [.sl (l.map dC), .sl (ss.map dStp)] [] (fun rr ii nn => rr = .p (.bool (crV l ss)) ∧ ii = [] ∧ nn = []) := by
 refine qjl Tryz.func35 rfl (nb rfl) fun w X g => ?_
 show AWp _ _ _ ⟨[(0, .sl (l.map dC)), (1, .sl (ss.map dStp))], []⟩
 refine rs (oa rfl (on (rs (om rfl (om rfl (op_call3 (v := fun ver ver2 ver3 => .tup [.ptr 10 ver 0, .p _]) (hp1 := fun ver ver2 ver3 => [(10, some (ver, .box 170 [.own 100010 ver2, .own 200010 ver3])), (100010, some (ver2, .row 69 2 _)), (200010, some (ver3, .row 4 1 _))]) [] false ent88 (f_refY l ss E h hE) ⟨.inl ⟨rfl, rfl⟩, .inl ⟨rfl, rfl⟩, trivial⟩ trivial rfl rfl rfl rfl (.inl rfl) (fun _ _ _ => rfl) (fun _ _ _ => rfl) ?_))))))
 rintro  v10x1 v100010x1 v200010x1
 dsimp only [List.cons_append, List.nil_append]
 refine om rfl (qqa (qqt rfl rfl) (qqa (qqt rfl rfl) (oa rfl (oa rfl (on (rs (om rfl (qqa (j_ge rfl rfl) (oa rfl (on (qqx ?_)))))))))))
 exact qjt rfl ⟨qje (by rw [crV_y h]; exact falI_fal), rfl, rfl⟩
theorem f_crN (l : List Con) (ss : List Stp) (h : runV l ss = none) : Fn Tryz.prog 35 [.sl (l.map dC), .sl (ss.map dStp)] [] (fun rr ii nn => rr = .p (.bool (crV l ss)) ∧ ii = [] ∧ nn = []) := by
 refine qjl Tryz.func35 rfl (nb rfl) fun w X g => ?_
 show AWp _ _ _ ⟨[(0, .sl (l.map dC)), (1, .sl (ss.map dStp))], []⟩
 refine rs (oa rfl (on (rs (om rfl (om rfl ?_)))))
 refine qq0 (qqn (v := .tup [.p _, .p _]) (hp1 := []) [] false [] ent88 (f_refN l ss h) ⟨.inl ⟨rfl, rfl⟩, .inl ⟨rfl, rfl⟩, trivial⟩ trivial rfl rfl (fun h => by cases h) rfl (fun _ h => by cases h) (.inl rfl) rfl rfl) ?_
 refine om rfl (qqa (qqt rfl rfl) (qqa (qqt rfl rfl) (oa rfl (oa rfl (on (rs (om rfl (qqa (j_ge rfl rfl) (oa rfl (on (qqx ?_)))))))))))
 exact qjt rfl ⟨qje (by rw [crV_n h]; rfl), rfl, rfl⟩
theorem f_crImpl (l : List Con) (ss : List Stp) : Fn Tryz.prog 35 [.sl (l.map dC), .sl (ss.map dStp)] [] (fun rr ii nn => rr = .p (.bool (crV l ss)) ∧ ii = [] ∧ nn = []) := by
 cases h : runV l ss with
 | none => exact f_crN l ss h
 | some E => exact f_crY l ss E h (runV_inv h)
end Go.Ab

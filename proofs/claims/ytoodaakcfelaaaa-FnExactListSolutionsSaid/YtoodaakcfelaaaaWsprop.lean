/- Walks. -/
import Derived.Test.YtoodaakcfelaaaaBase
import Derived.Test.YtoodaakcfelaaaaSimp
import Derived.Test.YtoodaakcfelaaaaWsfix
import Derived.Test.YtoodaakcfelaaaaWstight
import Derived.Test.YtoodaakcfelaaaaWsparse
import Derived.Test.YtoodaakcfelaaaaWsexcl2
import Derived.Test.YtoodaakcfelaaaaWscon2
import Derived.Test.YtoodaakcfelaaaaWsexcl
import Derived.Test.YtoodaakcfelaaaaWsfun
import Derived.Test.YtoodaakcfelaaaaWsprob
import Derived.Test.YtoodaakcfelaaaaWsdeep
namespace Go.Ab
open Go.Proofs
set_option maxRecDepth 100000
set_option maxHeartbeats 8000000
set_option linter.unusedSimpArgs false
set_option linter.unusedVariables false
theorem qjo {p : Prop} (h : p := by first | omega | (simp only [nr, nl, qqc]; omega)) : p := h
theorem f_slack (c : Con) (p : List Int) (hc : cOk c = true) (hp : paOk p = true) : Fn Try.prog 82 [.agg [.sl (c.1.map dT), .p (.int .i64 c.2)], .sl (p.map dI)] [] (fun rr ii nn => rr = .p (.int .i64 (slV c p)) ∧ ii = [] ∧ nn = []) := by
 refine qjj Try.func82 rfl (nb rfl) fun w X g => ?_
 show AWp _ _ _ ⟨[(0, .agg [.sl (c.1.map dT), .p (.int .i64 c.2)]), (1, .sl (p.map dI))], []⟩
 have hlc := cOk_len hc
 have hbc := cOk_bound hc
 have hpl := qjv hp
 refine rs (qqu (fun ver => j_boxa rfl) fun v2x1 => ?_)
 refine oa rfl (on (rs (qqa (qqm fld56f1 rfl rfl) (qqa (qqe qq7 rfl rfl rfl) (qqa (j_neg rfl qjo qjo) (oa rfl (on (qqd (rs (qqa (qqm qjp rfl rfl) (qqa (qqe qj7 rfl rfl rfl) (qqa (qqs Try.underlying54 rfl) (om rfl ?_)))))))))))))
 refine on (qqh (qqt (ι := Nat) (fun k => k ≤ c.1.length) (fun k r => (14, .p (.int .i64 ((k : Nat)))) :: (5, .p (.int .i64 (slF p (c.1.take k) (-c.2)))) :: r) (fun k r => r) (fun k => c.1.length - k) (fun _ _ => rfl) (fun _ _ => rfl) 0 qjo ⟨⟨rfl, rfl⟩, ⟨rfl, rfl, trivial⟩, trivial, ⟨rfl, rfl⟩, ⟨rfl, rfl⟩⟩ ?_))
 intro k hpre0
 refine rs (qqa (qzk rfl rfl) (on (qqd (ac rfl (fun h1 => ?_) fun h1 => ?_))))
 ·
  have h1r := h1
  try simp only [nq, nr, nl, qqc] at h1
  refine qqg (qqd (qqh (qqd ?_)))
  have htm := cOk_terms hc (k := k) (by omega)
  have hst := slF_take hc p k
  refine ar (qqa (qq5 qz0 rfl rfl rfl (qqj qjo) rfl) (qqa (qjq (ys := [.p _, .p _]) agg83 rfl (qqj qjo) rfl (Nat.le_refl _)) (qqu (fun ver => qjw elt83 rfl) fun v7x2 => ?_)))
  refine qjk (qqk agg83 rfl rfl rfl rfl rfl rfl) ?_
  refine on (rs (qqa (qqm qzn rfl rfl) (qqa (qqe qq7 rfl rfl rfl) (om rfl ?_))))
  refine qq4 (qqp (v := .p _) (hp1 := []) [] false [] ent89 (f_under (c.1.getD k default).2 p htm.1 hp) ⟨.inl ⟨rfl, rfl⟩, .inl ⟨rfl, rfl⟩, trivial⟩ trivial rfl rfl (fun h => by cases h) rfl (fun _ h => by cases h) (.inl rfl) rfl rfl) ?_
  refine qqa (j_ge rfl rfl) (on (ac rfl (fun h2 => ?_) fun h2 => ?_))
  ·
   have h2r := h2
   try simp only [nq, nr, nl, qqc] at h2
   refine ar (om rfl (qqa (qqm fld83f0 rfl rfl) (qqa (qqe qq7 rfl rfl rfl) (qqa (qje rfl rfl qjo qjo) (oa rfl (on (ar (qqa (qje rfl rfl qjo qjo) (om rfl (on ?_))))))))))
   exact ⟨k + 1, qjo, ⟨⟨rfl, rfl⟩, ⟨rfl, qz7 (by rw [slF_next (by omega), if_pos (by omega)]), trivial⟩, trivial, ⟨rfl, rfl⟩, ⟨rfl, rfl⟩⟩, qjo⟩
  have h2r := h2
  try simp only [nq, nr, nl, qqc] at h2
  refine qqg (ar (qqa (qje rfl rfl qjo qjo) (om rfl (on ?_))))
  exact ⟨k + 1, qjo, ⟨⟨rfl, rfl⟩, ⟨rfl, qz7 (by rw [slF_next (by omega), if_neg (by omega)]), trivial⟩, trivial, ⟨rfl, rfl⟩, ⟨rfl, rfl⟩⟩, qjo⟩
 have h1r := h1
 try simp only [nq, nr, nl, qqc] at h1
 refine qjf (rs (om rfl (oa rfl (on (qql ?_)))))
 exact qjh rfl ⟨qz7 (by unfold slV; rw [List.take_of_length_le (by omega)]), rfl, rfl⟩
theorem f_l3Slack (c : Con) (p : List Int) (hc : cOk c = true) (hp : paOk p = true) : Fn Try.prog 76 [.agg [.sl (c.1.map dT), .p (.int .i64 c.2)], .sl (p.map dI)] [] (fun rr ii nn => rr = .p (.int .i64 (slV c p)) ∧ ii = [] ∧ nn = []) := by
 refine qjj Try.func76 rfl (nb rfl) fun w X g => ?_
 show AWp _ _ _ ⟨[(0, .agg [.sl (c.1.map dT), .p (.int .i64 c.2)]), (1, .sl (p.map dI))], []⟩
 have hlc := cOk_len hc
 have hbc := cOk_bound hc
 have hpl := qjv hp
 refine rs (qqu (fun ver => j_boxa rfl) fun v2x1 => ?_)
 refine oa rfl (on (rs (qqa (qqm fld56f1 rfl rfl) (qqa (qqe qq7 rfl rfl rfl) (qqa (j_neg rfl qjo qjo) (oa rfl (on (qqd (rs (oa rfl (on (qqh (qqt (ι := Nat) (fun k => k ≤ c.1.length) (fun k r => (6, .p (.int .i64 ((k : Nat)))) :: (5, .p (.int .i64 (slF p (c.1.take k) (-c.2)))) :: r) (fun k r => r) (fun k => c.1.length - k) (fun _ _ => rfl) (fun _ _ => rfl) 0 qjo ⟨⟨rfl, rfl⟩, ⟨rfl, rfl, trivial⟩, trivial, ⟨rfl, rfl⟩, ⟨rfl, rfl⟩⟩ ?_)))))))))))))
 intro k hpre0
 refine qqd (rs (om rfl (qqa (qqm qjp rfl rfl) (qqa (qqe qj7 rfl rfl rfl) (qqa (qqs Try.underlying54 rfl) (qqa (qzk rfl rfl) (on (ac rfl (fun h1 => ?_) fun h1 => ?_))))))))
 ·
  have h1r := h1
  try simp only [nq, nr, nl, qqc] at h1
  refine qqg (qqd (qqh (qqd ?_)))
  have htm := cOk_terms hc (k := k) (by omega)
  have hst := slF_take hc p k
  refine ar (om rfl (qqa (qqm qjp rfl rfl) (qqa (qqe qj7 rfl rfl rfl) (om rfl (qqa (qq5 qz0 rfl rfl rfl (qqj qjo) rfl) (qqa (qxa qzn rfl) (qqa (qqz qq7 rfl (qqj qjo) rfl) ?_)))))))
  refine qq4 (qqp (v := .p _) (hp1 := []) [] false [] ent86 (f_l3State p (c.1.getD k default).2 htm.1 hp) ⟨.inl ⟨rfl, rfl⟩, .inl ⟨rfl, rfl⟩, trivial⟩ trivial rfl rfl (fun h => by cases h) rfl (fun _ h => by cases h) (.inl rfl) rfl rfl) ?_
  refine qqa (j_ge rfl rfl) (on (ac rfl (fun h2 => ?_) fun h2 => ?_))
  ·
   have h2r := h2
   try simp only [nq, nr, nl, qqc] at h2
   refine ar (om rfl (qqa (qqm qjp rfl rfl) (qqa (qqe qj7 rfl rfl rfl) (om rfl (qqa (qq5 qz0 rfl rfl rfl (qqj qjo) rfl) (qqa (qxa fld83f0 rfl) (qqa (qqz qq7 rfl (qqj qjo) rfl) (qqa (qje rfl rfl qjo qjo) (oa rfl (on (ar (om rfl (qqa (qje rfl rfl qjo qjo) ?_)))))))))))))
   refine oa rfl (on ?_)
   exact ⟨k + 1, qjo, ⟨⟨rfl, rfl⟩, ⟨rfl, qz7 (by rw [slF_next (by omega), if_pos (by omega)]), trivial⟩, trivial, ⟨rfl, rfl⟩, ⟨rfl, rfl⟩⟩, qjo⟩
  have h2r := h2
  try simp only [nq, nr, nl, qqc] at h2
  refine qqg (ar (om rfl (qqa (qje rfl rfl qjo qjo) (oa rfl (on ?_)))))
  exact ⟨k + 1, qjo, ⟨⟨rfl, rfl⟩, ⟨rfl, qz7 (by rw [slF_next (by omega), if_neg (by omega)]), trivial⟩, trivial, ⟨rfl, rfl⟩, ⟨rfl, rfl⟩⟩, qjo⟩
 have h1r := h1
 try simp only [nq, nr, nl, qqc] at h1
 refine qjf (rs (om rfl (oa rfl (on (qql ?_)))))
 exact qjh rfl ⟨qz7 (by unfold slV; rw [List.take_of_length_le (by omega)]), rfl, rfl⟩
theorem f_implied (c : Con) (p : List Int) (hc : cOk c = true) (hp : paOk p = true) : Fn Try.prog 83 [.agg [.sl (c.1.map dT), .p (.int .i64 c.2)], .sl (p.map dI)] [] (fun rr ii nn => rr = .own 0 0 ∧ ii = [] ∧ nn = [.row 3 1 ((impC c p).map dI)]) := by
 refine qjj Try.func83 rfl (nb rfl) fun w X g => ?_
 show AWp _ _ _ ⟨[(0, .agg [.sl (c.1.map dT), .p (.int .i64 c.2)]), (1, .sl (p.map dI))], []⟩
 have hlc := cOk_len hc
 have hbc := cOk_bound hc
 have hpl := qjv hp
 refine rs (qqu (fun ver => j_boxa rfl) fun v2x1 => ?_)
 refine oa rfl (on (rs (qqa (qqr (ys := [.sl _, .p _]) qj5 rfl rfl rfl (nb rfl)) (om rfl ?_))))
 refine qq4 (qqp (v := .p _) (hp1 := []) [] false [] ent82 (f_slack c p hc hp) ⟨.inl ⟨rfl, rfl⟩, .inl ⟨rfl, rfl⟩, trivial⟩ trivial rfl rfl (fun h => by cases h) rfl (fun _ h => by cases h) (.inl rfl) rfl rfl) ?_
 refine oa rfl (on (rs (oa rfl (on (qjb 6 6 3 1 rfl fun v6 => ?_)))))
 refine qqd (rs (qqa (qqm qjp rfl rfl) (qqa (qqe qj7 rfl rfl rfl) (qqa (qqs Try.underlying54 rfl) (om rfl (on (qqh (qqt (ι := Nat × Nat) (fun x => x.1 ≤ c.1.length) (fun x r => (15, .p (.int .i64 ((x.1 : Nat)))) :: (6, .own 6 x.2) :: r) (fun x r => (6, some (x.2, .row 3 1 ((impF p (slV c p) (c.1.take x.1)).map dI))) :: r) (fun x => c.1.length - x.1) (fun _ _ => rfl) (fun _ _ => rfl) (0, v6) (by first | exact (Nat.zero_le _) | (dsimp only; exact (Nat.zero_le _))) ⟨⟨rfl, rfl⟩, ⟨rfl, rfl, trivial⟩, ⟨rfl, trivial⟩, ⟨rfl, rfl⟩, ⟨rfl, rfl⟩⟩ ?_))))))))
 rintro ⟨k, v⟩ hpre; dsimp only at hpre ⊢
 refine rs (qqa (qzk rfl rfl) (on (qqd (ac rfl (fun h1 => ?_) fun h1 => ?_))))
 ·
  have h1r := h1
  try simp only [nq, nr, nl, qqc] at h1
  refine qqg (qqd (qqh (qqd ?_)))
  have htm := cOk_terms hc (k := k) (by omega)
  have hit := impF_take (p := p) (s := slV c p) (ts := c.1) (k := k)
  refine ar (qqa (qq5 qz0 rfl rfl rfl (qqj qjo) rfl) (qqa (qjq (ys := [.p _, .p _]) agg83 rfl (qqj qjo) rfl (Nat.le_refl _)) (qqu (fun ver => qjw elt83 rfl) fun v8x2 => ?_)))
  refine qjk (qqk agg83 rfl rfl rfl rfl rfl rfl) ?_
  refine on (rs (qqa (qqm qzn rfl rfl) (qqa (qqe qq7 rfl rfl rfl) (om rfl ?_))))
  refine qq4 (qqp (v := .p _) (hp1 := []) [] false [] ent89 (f_under (c.1.getD k default).2 p htm.1 hp) ⟨.inl ⟨rfl, rfl⟩, .inl ⟨rfl, rfl⟩, trivial⟩ trivial rfl rfl (fun h => by cases h) rfl (fun _ h => by cases h) (.inl rfl) rfl rfl) ?_
  refine qqa (j_eq rfl rfl) (om rfl (qq9 24 rfl (fun h2 => ?_) (fun h2 => ?_)))
  ·
   have h2r := h2
   try simp only [nq, nr, nl, qqc] at h2
   refine qqa (qqf rfl rfl h2r (qqm fld83f0 rfl rfl)) (qqa (qqf rfl rfl h2r (qqe qq7 rfl rfl rfl)) (qqa (qqf rfl rfl h2r (qqn (evo rfl))) (qqa (qqf rfl rfl h2r (j_gt rfl rfl)) (qqa (qq6 rfl h2r (evo rfl)) (on (ac rfl (fun h3 => ?_) fun h3 => ?_))))))
   ·
    have h3r := h3
    try simp only [nq, nr, nl, qqc] at h3
    refine ar (om rfl (qqa (qqm qzn rfl rfl) (qqa (qqe qq7 rfl rfl rfl) (qqu (fun ver => qqv (parts := [(0, .tmp 32)]) (es := [[_]]) qjg elt3 rfl rfl (by decide) (by decide) rfl rfl (by simp) rfl) fun v33x3 => ?_))))
    refine qqu (fun ver => qq2 qjg elt3 rfl rfl rfl rfl rfl rfl (by rw [qqw]; first | omega | (simp only [nr, nl, qqc]; omega)) qjo) fun v6x4 => ?_
    refine oa rfl (on (ar (qqa (qje rfl rfl qjo qjo) (om rfl (on ?_)))))
    exact ⟨(k + 1, v6x4), (by first | exact qjo | (dsimp only; exact qjo)), ⟨⟨rfl, rfl⟩, ⟨rfl, rfl, trivial⟩, ⟨qzd (by first | (rw [impF_yes (by omega) ⟨by omega, by omega⟩, List.map_append]; rfl) | (rw [impF_no (by omega) (by omega)])), trivial⟩, ⟨rfl, rfl⟩, ⟨rfl, rfl⟩⟩, (by first | exact qjo | (dsimp only; exact qjo))⟩
   have h3r := h3
   try simp only [nq, nr, nl, qqc] at h3
   refine qqg (ar (qqa (qje rfl rfl qjo qjo) (om rfl (on ?_))))
   exact ⟨(k + 1, v), (by first | exact qjo | (dsimp only; exact qjo)), ⟨⟨rfl, rfl⟩, ⟨rfl, rfl, trivial⟩, ⟨qzd (by first | (rw [impF_yes (by omega) ⟨by omega, by omega⟩, List.map_append]; rfl) | (rw [impF_no (by omega) (by omega)])), trivial⟩, ⟨rfl, rfl⟩, ⟨rfl, rfl⟩⟩, (by first | exact qjo | (dsimp only; exact qjo))⟩
  have h2r := h2
  try simp only [nq, nr, nl, qqc] at h2
  refine qqa (qqb rfl rfl h2r) (qqa (qqb rfl rfl h2r) (qqa (qqb rfl rfl h2r) (qqa (qqb rfl rfl h2r) (qqa (qq3 rfl h2r (evo rfl)) (on (a_ff rfl ?_))))))
  refine qqg (ar (qqa (qje rfl rfl qjo qjo) (om rfl (on ?_))))
  exact ⟨(k + 1, v), (by first | exact qjo | (dsimp only; exact qjo)), ⟨⟨rfl, rfl⟩, ⟨rfl, rfl, trivial⟩, ⟨qzd (by first | (rw [impF_yes (by omega) ⟨by omega, by omega⟩, List.map_append]; rfl) | (rw [impF_no (by omega) (by omega)])), trivial⟩, ⟨rfl, rfl⟩, ⟨rfl, rfl⟩⟩, (by first | exact qjo | (dsimp only; exact qjo))⟩
 have h1r := h1
 try simp only [nq, nr, nl, qqc] at h1
 refine qjf (rs (om rfl (oa rfl (on (qql ?_)))))
 exact ⟨[.own 6 v], .own 0 0, [], [.row 3 1 _], [(6, v)], ⟨rfl, trivial⟩, rfl, rfl, ⟨⟨rfl, rfl⟩, trivial⟩, rfl, rfl, ⟨rfl, rfl, by rw [List.take_of_length_le (by omega)]; rfl⟩⟩
theorem f_l3Implied (c : Con) (p : List Int) (hc : cOk c = true) (hp : paOk p = true) (hs : 0 ≤ slV c p) : Fn Try.prog 77 [.agg [.sl (c.1.map dT), .p (.int .i64 c.2)], .sl (p.map dI)] [] (fun rr ii nn => rr = .own 0 0 ∧ ii = [] ∧ nn = [.row 3 1 ((impC c p).map dI)]) := by
 refine qjj Try.func77 rfl (nb rfl) fun w X g => ?_
 show AWp _ _ _ ⟨[(0, .agg [.sl (c.1.map dT), .p (.int .i64 c.2)]), (1, .sl (p.map dI))], []⟩
 have hlc := cOk_len hc
 have hbc := cOk_bound hc
 have hpl := qjv hp
 refine rs (qqu (fun ver => j_boxa rfl) fun v2x1 => ?_)
 refine oa rfl (on (rs (qqu (fun ver => qza qjg elt3 rfl rfl (by decide)) fun v8x2 => ?_)))
 refine oa rfl (on (rs (qqa (qqr (ys := [.sl _, .p _]) qj5 rfl rfl rfl (nb rfl)) (om rfl ?_))))
 refine qq4 (qqp (v := .p _) (hp1 := []) [] false [] ent76 (f_l3Slack c p hc hp) ⟨.inl ⟨rfl, rfl⟩, .inl ⟨rfl, rfl⟩, trivial⟩ trivial rfl rfl (fun h => by cases h) rfl (fun _ h => by cases h) (.inl rfl) rfl rfl) ?_
 refine oa rfl (on (qqd (rs (oa rfl (on (qqh (qqt (ι := Nat × Nat) (fun x => x.1 ≤ c.1.length) (fun x r => (7, .p (.int .i64 ((x.1 : Nat)))) :: (5, .own 8 x.2) :: r) (fun x r => (8, some (x.2, .row 3 1 ((impF p (slV c p) (c.1.take x.1)).map dI))) :: r) (fun x => c.1.length - x.1) (fun _ _ => rfl) (fun _ _ => rfl) (0, v8x2) (by first | exact (Nat.zero_le _) | (dsimp only; exact (Nat.zero_le _))) ⟨⟨rfl, rfl⟩, ⟨rfl, rfl, trivial⟩, ⟨rfl, trivial⟩, ⟨rfl, rfl⟩, ⟨rfl, rfl⟩⟩ ?_)))))))
 rintro ⟨k, v⟩ hpre; dsimp only at hpre ⊢
 refine qqd (rs (om rfl (qqa (qqm qjp rfl rfl) (qqa (qqe qj7 rfl rfl rfl) (qqa (qqs Try.underlying54 rfl) (qqa (qzk rfl rfl) (om rfl (qq9 17 rfl (fun h1 => ?_) (fun h1 => ?_)))))))))
 ·
  have h1r := h1
  try simp only [nq, nr, nl, qqc] at h1
  refine qqa (qqf rfl rfl h1r (qqn (evo rfl))) (qqa (qqf rfl rfl h1r (j_ge rfl rfl)) (qqa (qq6 rfl h1r (evo rfl)) (on (ac rfl (fun h2 => ?_) fun h2 => ?_))))
  ·
   have h2r := h2
   try simp only [nq, nr, nl, qqc] at h2
   refine qqg (qqd (qqh (qqd ?_)))
   have htm := cOk_terms hc (k := k) (by omega)
   have hit := impF_take (p := p) (s := slV c p) (ts := c.1) (k := k)
   refine ar (om rfl (qqa (qqm qjp rfl rfl) (qqa (qqe qj7 rfl rfl rfl) (om rfl (qqa (qq5 qz0 rfl rfl rfl (qqj qjo) rfl) (qqa (qxa qzn rfl) (qqa (qqz qq7 rfl (qqj qjo) rfl) ?_)))))))
   refine qq4 (qqp (v := .p _) (hp1 := []) [] false [] ent86 (f_l3State p (c.1.getD k default).2 htm.1 hp) ⟨.inl ⟨rfl, rfl⟩, .inl ⟨rfl, rfl⟩, trivial⟩ trivial rfl rfl (fun h => by cases h) rfl (fun _ h => by cases h) (.inl rfl) rfl rfl) ?_
   refine qqa (j_eq rfl rfl) (om rfl (qq9 32 rfl (fun h3 => ?_) (fun h3 => ?_)))
   ·
    have h3r := h3
    try simp only [nq, nr, nl, qqc] at h3
    refine qqa (qqf rfl rfl h3r (qqm qjp rfl rfl)) (qqa (qqf rfl rfl h3r (qqe qj7 rfl rfl rfl)) (qqa (qqf rfl rfl h3r (qqn (evo rfl))) (qqa (qqf rfl rfl h3r (qq5 qz0 rfl rfl rfl (qqj qjo) rfl)) (qqa (qqf rfl rfl h3r (qxa fld83f0 rfl)) (qqa (qqf rfl rfl h3r (qqz qq7 rfl (qqj qjo) rfl)) (qqa (qqf rfl rfl h3r (qqn (evo rfl))) (qqa (qqf rfl rfl h3r (j_gt rfl rfl)) (qqa (qq6 rfl h3r (evo rfl)) (on (ac rfl (fun h4 => ?_) fun h4 => ?_))))))))))
    ·
     have h4r := h4
     try simp only [nq, nr, nl, qqc] at h4
     refine ar (om rfl (qqa (qqm qjp rfl rfl) (qqa (qqe qj7 rfl rfl rfl) (om rfl (qqa (qq5 qz0 rfl rfl rfl (qqj qjo) rfl) (qqa (qxa qzn rfl) (qqa (qqz qq7 rfl (qqj qjo) rfl) (qqu (fun ver => qqv (parts := [(0, .tmp 48)]) (es := [[_]]) qjg elt3 rfl rfl (by decide) (by decide) rfl rfl (by simp) rfl) fun v49x3 => ?_))))))))
     refine qqu (fun ver => qq2 qjg elt3 rfl rfl rfl rfl rfl rfl (by rw [qqw]; first | omega | (simp only [nr, nl, qqc]; omega)) qjo) fun v8x4 => ?_
     refine oa rfl (on (ar (om rfl (qqa (qje rfl rfl qjo qjo) (oa rfl (on ?_))))))
     exact ⟨(k + 1, v8x4), (by first | exact qjo | (dsimp only; exact qjo)), ⟨⟨rfl, rfl⟩, ⟨rfl, rfl, trivial⟩, ⟨qzd (by first | (rw [impF_yes (by omega) ⟨by omega, by omega⟩, List.map_append]; rfl) | (rw [impF_no (by omega) (by omega)])), trivial⟩, ⟨rfl, rfl⟩, ⟨rfl, rfl⟩⟩, (by first | exact qjo | (dsimp only; exact qjo))⟩
    have h4r := h4
    try simp only [nq, nr, nl, qqc] at h4
    refine qqg (ar (om rfl (qqa (qje rfl rfl qjo qjo) (oa rfl (on ?_)))))
    exact ⟨(k + 1, v), (by first | exact qjo | (dsimp only; exact qjo)), ⟨⟨rfl, rfl⟩, ⟨rfl, rfl, trivial⟩, ⟨qzd (by first | (rw [impF_yes (by omega) ⟨by omega, by omega⟩, List.map_append]; rfl) | (rw [impF_no (by omega) (by omega)])), trivial⟩, ⟨rfl, rfl⟩, ⟨rfl, rfl⟩⟩, (by first | exact qjo | (dsimp only; exact qjo))⟩
   have h3r := h3
   try simp only [nq, nr, nl, qqc] at h3
   refine qqa (qqb rfl rfl h3r) (qqa (qqb rfl rfl h3r) (qqa (qqb rfl rfl h3r) (qqa (qqb rfl rfl h3r) (qqa (qqb rfl rfl h3r) (qqa (qqb rfl rfl h3r) (qqa (qqb rfl rfl h3r) (qqa (qqb rfl rfl h3r) (qqa (qq3 rfl h3r (evo rfl)) (on (a_ff rfl ?_))))))))))
   refine qqg (ar (om rfl (qqa (qje rfl rfl qjo qjo) (oa rfl (on ?_)))))
   exact ⟨(k + 1, v), (by first | exact qjo | (dsimp only; exact qjo)), ⟨⟨rfl, rfl⟩, ⟨rfl, rfl, trivial⟩, ⟨qzd (by first | (rw [impF_yes (by omega) ⟨by omega, by omega⟩, List.map_append]; rfl) | (rw [impF_no (by omega) (by omega)])), trivial⟩, ⟨rfl, rfl⟩, ⟨rfl, rfl⟩⟩, (by first | exact qjo | (dsimp only; exact qjo))⟩
  have h2r := h2
  try simp only [nq, nr, nl, qqc] at h2
  refine qjf (rs (om rfl (oa rfl (on (qql ?_)))))
  exact ⟨[.own 8 v], .own 0 0, [], [.row 3 1 _], [(8, v)], ⟨rfl, trivial⟩, rfl, rfl, ⟨⟨rfl, rfl⟩, trivial⟩, rfl, rfl, ⟨rfl, rfl, by rw [List.take_of_length_le (by omega)]; rfl⟩⟩
 have h1r := h1
 try simp only [nq, nr, nl, qqc] at h1
 refine qqa (qqb rfl rfl h1r) (qqa (qqb rfl rfl h1r) (qqa (qq3 rfl h1r (evo rfl)) (on (a_ff rfl ?_))))
 refine qjf (rs (om rfl (oa rfl (on (qql ?_)))))
 exact ⟨[.own 8 v], .own 0 0, [], [.row 3 1 _], [(8, v)], ⟨rfl, trivial⟩, rfl, rfl, ⟨⟨rfl, rfl⟩, trivial⟩, rfl, rfl, ⟨rfl, rfl, by rw [List.take_of_length_le (by omega)]; rfl⟩⟩
theorem f_cloneI (ts : List Int) (hts : ts.length ≤ 1048576) : Fn Try.prog 73 [.sl (ts.map dI)] [] (fun rr ii nn => rr = .own 0 0 ∧ ii = [] ∧ nn = [.row 3 1 (ts.map dI)]) := by
 refine qjj Try.func73 rfl (nb rfl) fun w X g => ?_
 show AWp _ _ _ ⟨[(0, .sl (ts.map dI))], []⟩
 refine rs (oa rfl (on (qqd (rs (om rfl (op_eqnil Try.underlying23 rfl fun b1 hb1 => ?_))))))
 refine on (ac rfl (fun h2 => ?_) fun h2 => ?_)
 ·
  have h2r := h2
  try simp only [nq, nr, nl] at h2
  refine rs (oa rfl (on (qjb 2 2 3 1 rfl fun v2 => ?_)))
  refine qql ?_
  exact ⟨[.own 2 v2], .own 0 0, [], [.row 3 1 _], [(2, v2)], ⟨rfl, trivial⟩, rfl, rfl, ⟨⟨rfl, rfl⟩, trivial⟩, rfl, rfl, ⟨rfl, rfl, by rw [hb1 h2]⟩⟩
 have h2r := h2
 try simp only [nq, nr, nl] at h2
 refine qqg (rs (qqu (fun ver => qza qjg elt3 rfl rfl (by decide)) fun v5x1 => ?_))
 refine om rfl (qqu (fun ver => j_append_sl qjg elt3 rfl rfl rfl rfl (by intro x hx; obtain ⟨t, _, rfl⟩ := List.mem_map.1 hx; rfl) (all_lf_dI ts) (by rw [qqw]; first | omega | (simp only [nr, nl]; omega)) zz) fun v5x2 => ?_)
 refine oa rfl (on (qql ?_))
 exact ⟨[.own 5 v5x2], .own 0 0, [], [.row 3 1 _], [(5, v5x2)], ⟨rfl, trivial⟩, rfl, rfl, ⟨⟨rfl, rfl⟩, trivial⟩, rfl, rfl, ⟨rfl, rfl, rfl⟩⟩
theorem f_cloneC (ts : List Con) (hts : ts.length ≤ 1048576) : Fn Try.prog 30 [.sl (ts.map dC)] [] (fun rr ii nn => rr = .own 0 0 ∧ ii = [] ∧ nn = [.row 56 2 (ts.map dC)]) := by
 refine qjj Try.func30 rfl (nb rfl) fun w X g => ?_
 show AWp _ _ _ ⟨[(0, .sl (ts.map dC))], []⟩
 refine rs (oa rfl (on (qqd (rs (om rfl (op_eqnil Try.underlying29 rfl fun b1 hb1 => ?_))))))
 refine on (ac rfl (fun h2 => ?_) fun h2 => ?_)
 ·
  have h2r := h2
  try simp only [nq, nr, nl] at h2
  refine rs (oa rfl (on (qjb 2 2 56 2 rfl fun v2 => ?_)))
  refine qql ?_
  exact ⟨[.own 2 v2], .own 0 0, [], [.row 56 2 _], [(2, v2)], ⟨rfl, trivial⟩, rfl, rfl, ⟨⟨rfl, rfl⟩, trivial⟩, rfl, rfl, ⟨rfl, rfl, by rw [hb1 h2]⟩⟩
 have h2r := h2
 try simp only [nq, nr, nl] at h2
 refine qqg (rs (qqu (fun ver => qza qz9 qzh rfl rfl (by decide)) fun v5x1 => ?_))
 refine om rfl (qqu (fun ver => j_append_sl qz9 qzh rfl rfl rfl rfl (by intro x hx; obtain ⟨t, _, rfl⟩ := List.mem_map.1 hx; rfl) (all_lf_dC ts) (by rw [qqw]; first | omega | (simp only [nr, nl]; omega)) zz) fun v5x2 => ?_)
 refine oa rfl (on (qql ?_))
 exact ⟨[.own 5 v5x2], .own 0 0, [], [.row 56 2 _], [(5, v5x2)], ⟨rfl, trivial⟩, rfl, rfl, ⟨⟨rfl, rfl⟩, trivial⟩, rfl, rfl, ⟨rfl, rfl, rfl⟩⟩
theorem f_prop (l : List Con) (p : List Int) (hl : l.all cOk = true) (hll : l.length ≤ 3000) (hp : paOk p = true) : Fn Try.prog 71 [.sl (l.map dC), .sl (p.map dI)] [] (fun rr ii nn => rr = .tup [.own 0 0, .p (.int .i64 (prop l p).2)] ∧ ii = [] ∧ nn = [.row 3 1 ((prop l p).1.map dI)]) := by
 refine qjj Try.func71 rfl (nb rfl) fun w X g => ?_
 show AWp _ _ _ ⟨[(0, .sl (l.map dC)), (1, .sl (p.map dI))], []⟩
 have hpl := qjv hp
 refine rs (oa rfl (oa rfl (on (rs (om rfl ?_)))))
 refine qzi (fun ver => qj8 (v := .own 13 ver) (hp1 := [(13, some (ver, .row 3 1 _))]) [] false [] ent73 (f_cloneI p (by omega)) ⟨.inl ⟨rfl, rfl⟩, trivial⟩ trivial rfl rfl rfl (fun h => by cases h) rfl (List.all_eq_true.1 rfl) (.inl rfl) rfl rfl) fun v13x1 => ?_
 refine oa rfl (on (qqd (rs (oa rfl (on (qqh (qqt (ι := List Int × Bool) (fun x => paOk x.1 = true ∧ (x.2 = false → prop l p = (x.1, -1)) ∧ (x.2 = true → prop l p = prop l x.1)) (fun x r => (7, .p (.bool (x.2))) :: r) (fun x r => (13, some (v13x1, .row 3 1 (x.1.map dI))) :: r) (fun x => 2 * zer x.1 + (if x.2 = true then 1 else 0)) (fun _ _ => rfl) (fun _ _ => rfl) (p, true) (by first | exact (by dsimp only; exact ⟨hp, fun h => absurd h (by decide), fun _ => rfl⟩) | (dsimp only; exact (by dsimp only; exact ⟨hp, fun h => absurd h (by decide), fun _ => rfl⟩))) ⟨⟨rfl, rfl⟩, ⟨rfl, trivial⟩, ⟨rfl, trivial⟩, ⟨rfl, rfl⟩, ⟨rfl, rfl⟩⟩ ?_)))))))
 rintro ⟨q, m⟩ hq; dsimp only at hq ⊢
 refine qqd (rs (om rfl (on (ac rfl (fun h1 => ?_) fun h1 => ?_))))
 ·
  have h1r := h1
  try simp only [nq, nr, nl, qqc] at h1
  refine qqg (qqh (rs (oa rfl (on (rs (om rfl (qqa (qqs Try.underlying29 rfl) (om rfl (on (qqh (qqt (ι := Nat × List Int) (fun x => x.1 ≤ l.length ∧ paOk x.2 = true ∧ rnd l 0 q = rnd (l.drop x.1) (x.1 : Int) x.2 ∧ zer x.2 ≤ zer q) (fun x r => (17, .p (.int .i64 ((x.1 : Nat)))) :: (7, .p (.bool (decide (zer x.2 < zer q)))) :: r) (fun x r => (13, some (v13x1, .row 3 1 (x.2.map dI))) :: r) (fun x => l.length - x.1) (fun _ _ => rfl) (fun _ _ => rfl) (0, q) (by first | exact ⟨Nat.zero_le _, hq.1, rfl, Nat.le_refl _⟩ | (dsimp only; exact ⟨Nat.zero_le _, hq.1, rfl, Nat.le_refl _⟩)) ⟨⟨rfl, rfl⟩, ⟨rfl, qja (by dsimp only; symm; rw [decide_eq_false_iff_not]; omega), trivial⟩, ⟨rfl, trivial⟩, ⟨rfl, rfl⟩, ⟨rfl, rfl⟩⟩ ?_)))))))))))
  rintro ⟨k, q2⟩ hq2; dsimp only at hq2 ⊢
  refine rs (qqa (qzk rfl rfl) (on (qqd (ac rfl (fun h2 => ?_) fun h2 => ?_))))
  ·
   have h2r := h2
   try simp only [nq, nr, nl, qqc] at h2
   refine qqg (qqd (qqh (qqd ?_)))
   have hck := all_at (d := default) hl (k := k) qjo
   have hpl2 := qjv hq2.2.1
   refine ar (om rfl (qqa (qq5 qz9 rfl rfl rfl (qqj qjo) rfl) (qqa (qjq (ys := [.sl _, .p _]) qj5 rfl (qqj qjo) rfl (Nat.le_refl _)) (qqu (fun ver => qjw qzh rfl) fun v9x2 => ?_))))
   refine oa rfl (qjk (qqk qj5 rfl rfl rfl rfl rfl rfl) ?_)
   refine on (qqd (rs (qqa (qqr (ys := [.sl _, .p _]) qj5 rfl rfl rfl (nb rfl)) (om rfl ?_))))
   refine qq4 (qqp (v := .p _) (hp1 := []) [] true [13] ent82 (f_slack (l.getD k default) q2 hck hq2.2.1) ⟨.inl ⟨rfl, rfl⟩, .inr ⟨rfl, qj1 rfl rfl, rfl⟩, trivial⟩ trivial rfl rfl (fun _ => rfl) rfl (fun _ h => by cases h) (.inr ⟨rfl, by first | exact qjy (fun _ => rfl) | exact qj0 | (simp [plO, plV, plV.plL]; done)⟩) rfl rfl) ?_
   refine qqa (qzk rfl rfl) (on (ac rfl (fun h3 => ?_) fun h3 => ?_))
   ·
    have h3r := h3
    try simp only [nq, nr, nl, qqc] at h3
    refine qqd ?_
    have hhit := (hq.2.2 (by assumption)).trans (prop_bad (hq2.2.2.1.trans (rnd_hit qjo (by omega))))
    refine ar (om rfl (om rfl (oa rfl (oa rfl (on (qql ?_))))))
    exact ⟨[.own 13 v13x1, .p _], .tup [.own 0 0, .p _], [], [.row 3 1 _], [(13, v13x1)], ⟨rfl, rfl, trivial⟩, rfl, rfl, ⟨⟨rfl, rfl⟩, trivial⟩, rfl, rfl, ⟨by rw [hhit], rfl, by rw [hhit]⟩⟩
   have h3r := h3
   try simp only [nq, nr, nl, qqc] at h3
   refine qqg (rs (qqa (qqr (ys := [.sl _, .p _]) qj5 rfl rfl rfl (nb rfl)) (om rfl ?_)))
   refine qzi (fun ver => qj8 (v := .own 30 ver) (hp1 := [(30, some (ver, .row 3 1 _))]) [] true [13] ent83 (f_implied (l.getD k default) q2 hck hq2.2.1) ⟨.inl ⟨rfl, rfl⟩, .inr ⟨rfl, qj1 rfl rfl, rfl⟩, trivial⟩ trivial rfl rfl rfl (fun _ => rfl) rfl (List.all_eq_true.1 rfl) (.inr ⟨rfl, by first | exact qjy (fun _ => rfl) | exact qj0 | (simp [plO, plV, plV.plL]; done)⟩) rfl rfl) fun v30x3 => ?_
   refine qqa (qjc Try.underlying23 rfl rfl) (om rfl (on (qqh (qqt (ι := Nat) (fun j => j ≤ (impC (l.getD k default) q2).length) (fun j r => (32, .p (.int .i64 ((j : Nat)))) :: (7, .p (.bool (decide (zer (asgL q2 ((impC (l.getD k default) q2).take j)) < zer q)))) :: r) (fun j r => (13, some (v13x1, .row 3 1 ((asgL q2 ((impC (l.getD k default) q2).take j)).map dI))) :: r) (fun j => (impC (l.getD k default) q2).length - j) (fun _ _ => rfl) (fun _ _ => rfl) 0 (Nat.zero_le _) ⟨⟨rfl, rfl⟩, ⟨rfl, qja rfl, trivial⟩, ⟨qzd rfl, trivial⟩, ⟨rfl, rfl⟩, ⟨rfl, rfl⟩⟩ ?_))))
   intro j hj
   refine rs (qqa (qzk rfl rfl) (on (qqd (ac rfl (fun h4 => ?_) fun h4 => ?_))))
   ·
    have h4r := h4
    try simp only [nq, nr, nl, qqc] at h4
    refine qqg (qqd (qqh (qqd ?_)))
    have hlo := litOk_iff.1 (impC_at hck (p := q2) (k := j) qjo)
    have hil := impC_len hck (p := q2)
    have hal := qqc (p := q2) (ms := (impC (l.getD k default) q2).take j)
    refine ar (qqa (qqx qjg rfl rfl rfl rfl qjo) (qqa (qjl qq7 rfl rfl (qqj qjo) rfl) (oa rfl (on (rs (oa rfl (on (rs (om rfl (qqa (j_gt rfl rfl) (on (ac rfl (fun h5 => ?_) fun h5 => ?_))))))))))))
    ·
     have h5r := h5
     try simp only [nq, nr, nl, qqc] at h5
     refine ar (om rfl (om rfl (qqa (j_sub rfl rfl qjo qjo) (qqa (qqx (n := ((impC (l.getD k default) q2).getD j default - 1).toNat) qjg rfl rfl rfl (by omega) qjo) ?_))))
     refine qjk (qj9 qq7 rfl rfl qjo (evo rfl) rfl rfl) ?_
     refine on (ar (qqa (qje rfl rfl qjo qjo) (om rfl (on ?_))))
     exact ⟨j + 1, qjo, ⟨⟨rfl, rfl⟩, ⟨rfl, qja (by symm; rw [decide_eq_true_eq]; have hz1 := zer_imp hck (qjv hq2.2.1) (k := j + 1) qjo; omega), trivial⟩, ⟨qzd (by rw [asgL_next qjo]; first | done | exact asg_rowp (by omega) | exact asg_rown (by omega) (by omega) | (unfold asg; rw [List.map_set]; try rfl)), trivial⟩, ⟨rfl, rfl⟩, ⟨rfl, rfl⟩⟩, qjo⟩
    have h5r := h5
    try simp only [nq, nr, nl, qqc] at h5
    refine ar (om rfl (om rfl (qqa (j_neg rfl qjo qjo) (qqa (j_sub rfl rfl qjo qjo) (qqa (qqx (n := (-(impC (l.getD k default) q2).getD j default - 1).toNat) qjg rfl rfl rfl (by omega) qjo) ?_)))))
    refine qjk (qj9 qq7 rfl rfl qjo (evo rfl) rfl rfl) ?_
    refine on (ar (qqa (qje rfl rfl qjo qjo) (om rfl (on ?_))))
    exact ⟨j + 1, qjo, ⟨⟨rfl, rfl⟩, ⟨rfl, qja (by symm; rw [decide_eq_true_eq]; have hz1 := zer_imp hck (qjv hq2.2.1) (k := j + 1) qjo; omega), trivial⟩, ⟨qzd (by rw [asgL_next qjo]; first | done | exact asg_rowp (by omega) | exact asg_rown (by omega) (by omega) | (unfold asg; rw [List.map_set]; try rfl)), trivial⟩, ⟨rfl, rfl⟩, ⟨rfl, rfl⟩⟩, qjo⟩
   have h4r := h4
   try simp only [nq, nr, nl, qqc] at h4
   refine qjf (ar (qqa (qje rfl rfl qjo qjo) (om rfl (on ?_))))
   obtain rfl : j = (impC (l.getD k default) q2).length := qjo
   rw [List.take_length]
   have hza := zer_impA hck (qjv hq2.2.1)
   exact ⟨(k + 1, asgL q2 (impC (l.getD k default) q2)), (by first | exact ⟨by first | omega | (simp only [nr, nl, qqc]; omega), asgL_ok hq2.2.1, hq2.2.2.1.trans (rnd_step qjo (by omega)), by omega⟩ | (dsimp only; exact ⟨by first | omega | (simp only [nr, nl, qqc]; omega), asgL_ok hq2.2.1, hq2.2.2.1.trans (rnd_step qjo (by omega)), by omega⟩)), ⟨⟨rfl, rfl⟩, ⟨rfl, rfl, trivial⟩, ⟨rfl, trivial⟩, ⟨rfl, rfl⟩, ⟨rfl, rfl⟩⟩, (by first | exact qjo | (dsimp only; exact qjo))⟩
  have h2r := h2
  try simp only [nq, nr, nl, qqc] at h2
  refine qjf ?_
  obtain rfl : m = true := (by assumption)
  have hrd : rnd l 0 q = (q2, -1) := hq2.2.2.1.trans (rnd_end qjo)
  exact ⟨(q2, decide (zer q2 < zer q)), (by first | exact ⟨hq2.2.1, fun h => (hq.2.2 rfl).trans (prop_done hrd (of_decide_eq_false h)), fun h => (hq.2.2 rfl).trans (prop_again hrd (of_decide_eq_true h))⟩ | (dsimp only; exact ⟨hq2.2.1, fun h => (hq.2.2 rfl).trans (prop_done hrd (of_decide_eq_false h)), fun h => (hq.2.2 rfl).trans (prop_again hrd (of_decide_eq_true h))⟩)), ⟨⟨rfl, rfl⟩, ⟨rfl, trivial⟩, ⟨rfl, trivial⟩, ⟨rfl, rfl⟩, ⟨rfl, rfl⟩⟩, (by first | exact (by have hz := hq2.2.2.2; dsimp only; by_cases hzz : zer q2 < zer q; (· rw [if_pos (decide_eq_true hzz), if_pos rfl]; omega); (· rw [if_neg (by rw [decide_eq_false hzz]; decide), if_pos rfl]; omega)) | (dsimp only; exact (by have hz := hq2.2.2.2; dsimp only; by_cases hzz : zer q2 < zer q; (· rw [if_pos (decide_eq_true hzz), if_pos rfl]; omega); (· rw [if_neg (by rw [decide_eq_false hzz]; decide), if_pos rfl]; omega))))⟩
 have h1r := h1
 try simp only [nq, nr, nl, qqc] at h1
 refine qjf (qqd ?_)
 have hend := hq.2.1 (by assumption)
 refine ar (om rfl (oa rfl (oa rfl (on (qql ?_)))))
 exact ⟨[.own 13 v13x1, .p _], .tup [.own 0 0, .p _], [], [.row 3 1 _], [(13, v13x1)], ⟨rfl, rfl, trivial⟩, rfl, rfl, ⟨⟨rfl, rfl⟩, trivial⟩, rfl, rfl, ⟨by rw [hend], rfl, by rw [hend]⟩⟩
theorem f_l3Prop (l : List Con) (p : List Int) (hl : l.all cOk = true) (hll : l.length ≤ 3000) (hp : paOk p = true) : Fn Try.prog 65 [.sl (l.map dC), .own 0 0] [.row 3 1 (p.map dI)] (fun rr ii nn => rr = .p (.int .i64 ((prop l p).2)) ∧ ii = [.row 3 1 ((prop l p).1.map dI)] ∧ nn = []) := by
 refine qjj Try.func65 rfl (nb rfl) fun w X g => ?_
 show AWp _ _ _ ⟨[(0, .sl (l.map dC)), (1, .own 0 0)], [(0, some (0, .row 3 1 (p.map dI)))]⟩
 have hpl := qjv hp
 refine rs (oa rfl (on (qqd (rs (oa rfl (on (qqh (qqt (ι := List Int × Bool) (fun x => paOk x.1 = true ∧ (x.2 = false → prop l p = (x.1, -1)) ∧ (x.2 = true → prop l p = prop l x.1)) (fun x r => (5, .p (.bool (x.2))) :: r) (fun x r => (0, some (0, .row 3 1 (x.1.map dI))) :: r) (fun x => 2 * zer x.1 + (if x.2 = true then 1 else 0)) (fun _ _ => rfl) (fun _ _ => rfl) (p, true) (by first | exact (by dsimp only; exact ⟨hp, fun h => absurd h (by decide), fun _ => rfl⟩) | (dsimp only; exact (by dsimp only; exact ⟨hp, fun h => absurd h (by decide), fun _ => rfl⟩))) ⟨⟨rfl, rfl⟩, ⟨rfl, trivial⟩, ⟨rfl, trivial⟩, ⟨rfl, rfl⟩, ⟨rfl, rfl⟩⟩ ?_))))))))
 rintro ⟨q, m⟩ hq; dsimp only at hq ⊢
 refine qqd (rs (om rfl (on (ac rfl (fun h1 => ?_) fun h1 => ?_))))
 ·
  have h1r := h1
  try simp only [nq, nr, nl, qqc] at h1
  refine qqg (qqh (rs (oa rfl (on (rs (oa rfl (on (qqh (qqt (ι := Nat × List Int) (fun x => x.1 ≤ l.length ∧ paOk x.2 = true ∧ rnd l 0 q = rnd (l.drop x.1) (x.1 : Int) x.2 ∧ zer x.2 ≤ zer q) (fun x r => (6, .p (.int .i64 ((x.1 : Nat)))) :: (5, .p (.bool (decide (zer x.2 < zer q)))) :: r) (fun x r => (0, some (0, .row 3 1 (x.2.map dI))) :: r) (fun x => l.length - x.1) (fun _ _ => rfl) (fun _ _ => rfl) (0, q) (by first | exact ⟨Nat.zero_le _, hq.1, rfl, Nat.le_refl _⟩ | (dsimp only; exact ⟨Nat.zero_le _, hq.1, rfl, Nat.le_refl _⟩)) ⟨⟨rfl, rfl⟩, ⟨rfl, qja (by dsimp only; symm; rw [decide_eq_false_iff_not]; omega), trivial⟩, ⟨rfl, trivial⟩, ⟨rfl, rfl⟩, ⟨rfl, rfl⟩⟩ ?_)))))))))
  rintro ⟨k, q2⟩ hq2; dsimp only at hq2 ⊢
  refine qqd (rs (om rfl (om rfl (qqa (qqs Try.underlying29 rfl) (qqa (qzk rfl rfl) (on (ac rfl (fun h2 => ?_) fun h2 => ?_)))))))
  ·
   have h2r := h2
   try simp only [nq, nr, nl, qqc] at h2
   refine qqg (qqd (qqh (qqd (qqd ?_))))
   have hck := all_at (d := default) hl (k := k) qjo
   have hpl2 := qjv hq2.2.1
   refine ar (om rfl (om rfl (qqa (qq5 qz9 rfl rfl rfl (qqj qjo) rfl) (qqa (qjq (ys := [.sl _, .p _]) qj5 rfl (qqj qjo) rfl (Nat.le_refl _)) (om rfl ?_)))))
   refine qq4 (qqp (v := .p _) (hp1 := []) [] true [0] ent76 (f_l3Slack (l.getD k default) q2 hck hq2.2.1) ⟨.inl ⟨rfl, rfl⟩, .inr ⟨rfl, qj1 rfl rfl, rfl⟩, trivial⟩ trivial rfl rfl (fun _ => rfl) rfl (fun _ h => by cases h) (.inr ⟨rfl, by first | exact qjy (fun _ => rfl) | exact qj0 | (simp [plO, plV, plV.plL]; done)⟩) rfl rfl) ?_
   refine qqa (qzk rfl rfl) (on (ac rfl (fun h3 => ?_) fun h3 => ?_))
   ·
    have h3r := h3
    try simp only [nq, nr, nl, qqc] at h3
    refine qqd ?_
    have hhit := (hq.2.2 (by assumption)).trans (prop_bad (hq2.2.2.1.trans (rnd_hit qjo (by omega))))
    refine ar (om rfl (oa rfl (on (qql ?_))))
    exact ⟨[.p _], .p _, [.row 3 1 _], [], [], ⟨rfl, trivial⟩, rfl, rfl, ⟨⟨rfl, rfl⟩, trivial⟩, rfl, rfl, ⟨by rw [hhit], by rw [hhit], rfl⟩⟩
   have h3r := h3
   try simp only [nq, nr, nl, qqc] at h3
   refine qqg (rs (om rfl (om rfl (qqa (qq5 qz9 rfl rfl rfl (qqj qjo) rfl) (qqa (qjq (ys := [.sl _, .p _]) qj5 rfl (qqj qjo) rfl (Nat.le_refl _)) (om rfl ?_))))))
   refine qzi (fun ver => qj8 (v := .own 29 ver) (hp1 := [(29, some (ver, .row 3 1 _))]) [] true [0] ent77 (f_l3Implied (l.getD k default) q2 hck hq2.2.1 (by omega)) ⟨.inl ⟨rfl, rfl⟩, .inr ⟨rfl, qj1 rfl rfl, rfl⟩, trivial⟩ trivial rfl rfl rfl (fun _ => rfl) rfl (List.all_eq_true.1 rfl) (.inr ⟨rfl, by first | exact qjy (fun _ => rfl) | exact qj0 | (simp [plO, plV, plV.plL]; done)⟩) rfl rfl) fun v29x1 => ?_
   refine oa rfl (on (rs (oa rfl (on (qqh (qqt (ι := Nat) (fun j => j ≤ (impC (l.getD k default) q2).length) (fun j r => (8, .p (.int .i64 ((j : Nat)))) :: (5, .p (.bool (decide (zer (asgL q2 ((impC (l.getD k default) q2).take j)) < zer q)))) :: r) (fun j r => (0, some (0, .row 3 1 ((asgL q2 ((impC (l.getD k default) q2).take j)).map dI))) :: r) (fun j => (impC (l.getD k default) q2).length - j) (fun _ _ => rfl) (fun _ _ => rfl) 0 (Nat.zero_le _) ⟨⟨rfl, rfl⟩, ⟨rfl, qja rfl, trivial⟩, ⟨qzd rfl, trivial⟩, ⟨rfl, rfl⟩, ⟨rfl, rfl⟩⟩ ?_))))))
   intro j hj
   refine qqd (rs (om rfl (om rfl (qqa (qjc Try.underlying23 rfl rfl) (qqa (qzk rfl rfl) (on (ac rfl (fun h4 => ?_) fun h4 => ?_)))))))
   ·
    have h4r := h4
    try simp only [nq, nr, nl, qqc] at h4
    refine qqg (qqd (qqh (qqd ?_)))
    have hlo := litOk_iff.1 (impC_at hck (p := q2) (k := j) qjo)
    have hil := impC_len hck (p := q2)
    have hal := qqc (p := q2) (ms := (impC (l.getD k default) q2).take j)
    refine ar (om rfl (om rfl (om rfl (qqa (qqx qjg rfl rfl rfl rfl qjo) (qqa (qjl qq7 rfl rfl (qqj qjo) rfl) ?_)))))
    refine qq4 (qqp (v := .tup []) (hp1 := [(0, some (0, .row 3 1 _))]) [(0, 0)] false [0] ent64 (f_l3Assign (asgL q2 ((impC (l.getD k default) q2).take j)) ((impC (l.getD k default) q2).getD j default) (impC_at hck (p := q2) qjo) qjo) ⟨.inl ⟨rfl, rfl⟩, .inl ⟨rfl, rfl⟩, trivial⟩ ⟨⟨rfl, rfl⟩, trivial⟩ rfl rfl (fun h => by cases h) rfl (List.all_eq_true.1 rfl) (.inl rfl) rfl rfl) ?_
    refine on (ar (oa rfl (on (ar (om rfl (qqa (qje rfl rfl qjo qjo) (oa rfl (on ?_))))))))
    exact ⟨j + 1, qjo, ⟨⟨rfl, rfl⟩, ⟨rfl, qja (by symm; rw [decide_eq_true_eq]; have hz1 := zer_imp hck (qjv hq2.2.1) (k := j + 1) qjo; omega), trivial⟩, ⟨qzd (by rw [asgL_next qjo]; first | done | exact asg_rowp (by omega) | exact asg_rown (by omega) (by omega) | (unfold asg; rw [List.map_set]; try rfl)), trivial⟩, ⟨rfl, rfl⟩, ⟨rfl, rfl⟩⟩, qjo⟩
   have h4r := h4
   try simp only [nq, nr, nl, qqc] at h4
   refine qjf (ar (om rfl (qqa (qje rfl rfl qjo qjo) (oa rfl (on ?_)))))
   obtain rfl : j = (impC (l.getD k default) q2).length := qjo
   rw [List.take_length]
   have hza := zer_impA hck (qjv hq2.2.1)
   exact ⟨(k + 1, asgL q2 (impC (l.getD k default) q2)), (by first | exact ⟨by first | omega | (simp only [nr, nl, qqc]; omega), asgL_ok hq2.2.1, hq2.2.2.1.trans (rnd_step qjo (by omega)), by omega⟩ | (dsimp only; exact ⟨by first | omega | (simp only [nr, nl, qqc]; omega), asgL_ok hq2.2.1, hq2.2.2.1.trans (rnd_step qjo (by omega)), by omega⟩)), ⟨⟨rfl, rfl⟩, ⟨rfl, rfl, trivial⟩, ⟨rfl, trivial⟩, ⟨rfl, rfl⟩, ⟨rfl, rfl⟩⟩, (by first | exact qjo | (dsimp only; exact qjo))⟩
  have h2r := h2
  try simp only [nq, nr, nl, qqc] at h2
  refine qjf ?_
  obtain rfl : m = true := (by assumption)
  have hrd : rnd l 0 q = (q2, -1) := hq2.2.2.1.trans (rnd_end qjo)
  exact ⟨(q2, decide (zer q2 < zer q)), (by first | exact ⟨hq2.2.1, fun h => (hq.2.2 rfl).trans (prop_done hrd (of_decide_eq_false h)), fun h => (hq.2.2 rfl).trans (prop_again hrd (of_decide_eq_true h))⟩ | (dsimp only; exact ⟨hq2.2.1, fun h => (hq.2.2 rfl).trans (prop_done hrd (of_decide_eq_false h)), fun h => (hq.2.2 rfl).trans (prop_again hrd (of_decide_eq_true h))⟩)), ⟨⟨rfl, rfl⟩, ⟨rfl, trivial⟩, ⟨rfl, trivial⟩, ⟨rfl, rfl⟩, ⟨rfl, rfl⟩⟩, (by first | exact (by have hz := hq2.2.2.2; dsimp only; by_cases hzz : zer q2 < zer q; (· rw [if_pos (decide_eq_true hzz), if_pos rfl]; omega); (· rw [if_neg (by rw [decide_eq_false hzz]; decide), if_pos rfl]; omega)) | (dsimp only; exact (by have hz := hq2.2.2.2; dsimp only; by_cases hzz : zer q2 < zer q; (· rw [if_pos (decide_eq_true hzz), if_pos rfl]; omega); (· rw [if_neg (by rw [decide_eq_false hzz]; decide), if_pos rfl]; omega))))⟩
 have h1r := h1
 try simp only [nq, nr, nl, qqc] at h1
 refine qjf (qqd ?_)
 have hend := hq.2.1 (by assumption)
 refine ar (oa rfl (on (qql ?_)))
 exact ⟨[.p _], .p _, [.row 3 1 _], [], [], ⟨rfl, trivial⟩, rfl, rfl, ⟨⟨rfl, rfl⟩, trivial⟩, rfl, rfl, ⟨by rw [hend], by rw [hend], rfl⟩⟩
end Go.Ab

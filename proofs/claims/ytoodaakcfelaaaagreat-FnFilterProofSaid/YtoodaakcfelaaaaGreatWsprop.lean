/- Walks. -/
import Derived.Test.YtoodaakcfelaaaaGreatBase
import Derived.Test.YtoodaakcfelaaaaGreatSimp
import Derived.Test.YtoodaakcfelaaaaGreatWsfix
import Derived.Test.YtoodaakcfelaaaaGreatWsdraw
import Derived.Test.YtoodaakcfelaaaaGreatWscons
import Derived.Test.YtoodaakcfelaaaaGreatVals
import Derived.Test.YtoodaakcfelaaaaGreatWstab
import Derived.Test.YtoodaakcfelaaaaGreatWstight
import Derived.Test.YtoodaakcfelaaaaGreatWsfun
import Derived.Test.YtoodaakcfelaaaaGreatWsmul
import Derived.Test.YtoodaakcfelaaaaGreatDmod2
namespace Go.Ab
open Go.Proofs
set_option maxRecDepth 100000
set_option maxHeartbeats 8000000
set_option linter.unusedSimpArgs false
set_option linter.unusedVariables false
theorem zai0 {p : Prop} (h : p := by first | omega | (simp only [nr, nl, qq4]; omega)) : p := h
theorem f_slack (c : Con) (p : List Int) (hc : cOk c = true) (hp : paOk p = true) : Fn Tryz.prog 227 [.agg [.sl (c.1.map dT), .p (.int .i64 c.2)], .sl (p.map dI)] [] (fun rr ii nn => rr = .p (.int .i64 (slV c p)) ∧ ii = [] ∧ nn = []) := by
 refine qjm Tryz.func227 rfl (nb rfl) fun w X g => ?_
 show AWp _ _ _ ⟨[(0, .agg [.sl (c.1.map dT), .p (.int .i64 c.2)]), (1, .sl (p.map dI))], []⟩
 have hlc := cOk_len hc
 have hbc := cOk_bound hc
 have hpl := qxb hp
 refine rs (qq5 (fun ver => qj3 rfl) fun v2x1 => ?_)
 refine oa rfl (on (rs (qqa (qqi fld69f1 rfl rfl) (qqa (qqc qq2 rfl rfl rfl) (qqa (j_neg rfl zai0 zai0) (oa rfl (on (qqe (rs (qqa (qqi fld69f0 rfl rfl) (qqa (qqc leaf67 rfl rfl rfl) (qqa (qqg Tryz.underlying67 rfl) (om rfl ?_)))))))))))))
 refine on (qqf (qqr (ι := Nat) (fun k => k ≤ c.1.length) (fun k r => (14, .p (.int .i64 ((k : Nat)))) :: (5, .p (.int .i64 (slF p (c.1.take k) (-c.2)))) :: r) (fun k r => r) (fun k => c.1.length - k) (fun _ _ => rfl) (fun _ _ => rfl) 0 zai0 ⟨⟨rfl, rfl⟩, ⟨rfl, rfl, trivial⟩, trivial, ⟨rfl, rfl⟩, ⟨rfl, rfl⟩⟩ ?_))
 intro k hpre0
 refine rs (qqa (qzb rfl rfl) (on (qqe (ac rfl (fun h1 => ?_) fun h1 => ?_))))
 ·
  have h1r := h1
  try simp only [nq, nr, nl, qq4] at h1
  refine qqj (qqe (qqf (qqe ?_)))
  have htm := cOk_terms hc (k := k) (by omega)
  have hst := slF_take hc p k
  refine ar (qqa (qqy slt67 rfl rfl rfl (qqh zai0) rfl) (qqa (qzf (ys := [.p _, .p _]) agg135 rfl (qqh zai0) rfl (Nat.le_refl _)) (qq5 (fun ver => qjv qz3 rfl) fun v7x2 => ?_)))
  refine qjo (qqs agg135 rfl rfl rfl rfl rfl rfl) ?_
  refine on (rs (qqa (qqi fld135f1 rfl rfl) (qqa (qqc qq2 rfl rfl rfl) (om rfl ?_))))
  refine qq3 (qqn (v := .p _) (hp1 := []) [] false [] ent265 (f_under (c.1.getD k default).2 p htm.1 hp) ⟨.inl ⟨rfl, rfl⟩, .inl ⟨rfl, rfl⟩, trivial⟩ trivial rfl rfl (fun h => by cases h) rfl (fun _ h => by cases h) (.inl rfl) rfl rfl) ?_
  refine qqa (j_ge rfl rfl) (on (ac rfl (fun h2 => ?_) fun h2 => ?_))
  ·
   have h2r := h2
   try simp only [nq, nr, nl, qq4] at h2
   refine ar (om rfl (qqa (qqi fld135f0 rfl rfl) (qqa (qqc qq2 rfl rfl rfl) (qqa (qjh rfl rfl zai0 zai0) (oa rfl (on (ar (qqa (qjh rfl rfl zai0 zai0) (om rfl (on ?_))))))))))
   exact ⟨k + 1, zai0, ⟨⟨rfl, rfl⟩, ⟨rfl, qzg (by rw [slF_next (by omega), if_pos (by omega)]), trivial⟩, trivial, ⟨rfl, rfl⟩, ⟨rfl, rfl⟩⟩, zai0⟩
  have h2r := h2
  try simp only [nq, nr, nl, qq4] at h2
  refine qqj (ar (qqa (qjh rfl rfl zai0 zai0) (om rfl (on ?_))))
  exact ⟨k + 1, zai0, ⟨⟨rfl, rfl⟩, ⟨rfl, qzg (by rw [slF_next (by omega), if_neg (by omega)]), trivial⟩, trivial, ⟨rfl, rfl⟩, ⟨rfl, rfl⟩⟩, zai0⟩
 have h1r := h1
 try simp only [nq, nr, nl, qq4] at h1
 refine qja (rs (om rfl (oa rfl (on (qqm ?_)))))
 exact qq8 rfl ⟨qzg (by unfold slV; rw [List.take_of_length_le (by omega)]), rfl, rfl⟩
theorem f_implied (c : Con) (p : List Int) (hc : cOk c = true) (hp : paOk p = true) : Fn Tryz.prog 228 [.agg [.sl (c.1.map dT), .p (.int .i64 c.2)], .sl (p.map dI)] [] (fun rr ii nn => rr = .own 0 0 ∧ ii = [] ∧ nn = [.row 3 1 ((impC c p).map dI)]) := by
 refine qjm Tryz.func228 rfl (nb rfl) fun w X g => ?_
 show AWp _ _ _ ⟨[(0, .agg [.sl (c.1.map dT), .p (.int .i64 c.2)]), (1, .sl (p.map dI))], []⟩
 have hlc := cOk_len hc
 have hbc := cOk_bound hc
 have hpl := qxb hp
 refine rs (qq5 (fun ver => qj3 rfl) fun v2x1 => ?_)
 refine oa rfl (on (rs (qqa (qqk (ys := [.sl _, .p _]) qzn rfl rfl rfl (nb rfl)) (om rfl ?_))))
 refine qq3 (qqn (v := .p _) (hp1 := []) [] false [] ent227 (f_slack c p hc hp) ⟨.inl ⟨rfl, rfl⟩, .inl ⟨rfl, rfl⟩, trivial⟩ trivial rfl rfl (fun h => by cases h) rfl (fun _ h => by cases h) (.inl rfl) rfl rfl) ?_
 refine oa rfl (on (rs (oa rfl (on (qjt 6 6 3 1 rfl fun v6 => ?_)))))
 refine qqe (rs (qqa (qqi fld69f0 rfl rfl) (qqa (qqc leaf67 rfl rfl rfl) (qqa (qqg Tryz.underlying67 rfl) (om rfl (on (qqf (qqr (ι := Nat × Nat) (fun x => x.1 ≤ c.1.length) (fun x r => (15, .p (.int .i64 ((x.1 : Nat)))) :: (6, .own 6 x.2) :: r) (fun x r => (6, some (x.2, .row 3 1 ((impF p (slV c p) (c.1.take x.1)).map dI))) :: r) (fun x => c.1.length - x.1) (fun _ _ => rfl) (fun _ _ => rfl) (0, v6) (by first | exact (Nat.zero_le _) | (dsimp only; exact (Nat.zero_le _))) ⟨⟨rfl, rfl⟩, ⟨rfl, rfl, trivial⟩, ⟨rfl, trivial⟩, ⟨rfl, rfl⟩, ⟨rfl, rfl⟩⟩ ?_))))))))
 rintro ⟨k, v⟩ hpre; dsimp only at hpre ⊢
 refine rs (qqa (qzb rfl rfl) (on (qqe (ac rfl (fun h1 => ?_) fun h1 => ?_))))
 ·
  have h1r := h1
  try simp only [nq, nr, nl, qq4] at h1
  refine qqj (qqe (qqf (qqe ?_)))
  have htm := cOk_terms hc (k := k) (by omega)
  have hit := impF_take (p := p) (s := slV c p) (ts := c.1) (k := k)
  refine ar (qqa (qqy slt67 rfl rfl rfl (qqh zai0) rfl) (qqa (qzf (ys := [.p _, .p _]) agg135 rfl (qqh zai0) rfl (Nat.le_refl _)) (qq5 (fun ver => qjv qz3 rfl) fun v8x2 => ?_)))
  refine qjo (qqs agg135 rfl rfl rfl rfl rfl rfl) ?_
  refine on (rs (qqa (qqi fld135f1 rfl rfl) (qqa (qqc qq2 rfl rfl rfl) (om rfl ?_))))
  refine qq3 (qqn (v := .p _) (hp1 := []) [] false [] ent265 (f_under (c.1.getD k default).2 p htm.1 hp) ⟨.inl ⟨rfl, rfl⟩, .inl ⟨rfl, rfl⟩, trivial⟩ trivial rfl rfl (fun h => by cases h) rfl (fun _ h => by cases h) (.inl rfl) rfl rfl) ?_
  refine qqa (qz4 rfl rfl) (om rfl (qqx 24 rfl (fun h2 => ?_) (fun h2 => ?_)))
  ·
   have h2r := h2
   try simp only [nq, nr, nl, qq4] at h2
   refine qqa (qqd rfl rfl h2r (qqi fld135f0 rfl rfl)) (qqa (qqd rfl rfl h2r (qqc qq2 rfl rfl rfl)) (qqa (qqd rfl rfl h2r (qql (evo rfl))) (qqa (qqd rfl rfl h2r (j_gt rfl rfl)) (qqa (qqu rfl h2r (evo rfl)) (on (ac rfl (fun h3 => ?_) fun h3 => ?_))))))
   ·
    have h3r := h3
    try simp only [nq, nr, nl, qq4] at h3
    refine ar (om rfl (qqa (qqi fld135f1 rfl rfl) (qqa (qqc qq2 rfl rfl rfl) (qq5 (fun ver => qqw (parts := [(0, .tmp 32)]) (es := [[_]]) qqz qz7 rfl rfl (by decide) (by decide) rfl rfl (by simp) rfl) fun v33x3 => ?_))))
    refine qq5 (fun ver => qq6 qqz qz7 rfl rfl rfl rfl rfl rfl (by rw [qq0]; first | omega | (simp only [nr, nl, qq4]; omega)) zai0) fun v6x4 => ?_
    refine oa rfl (on (ar (qqa (qjh rfl rfl zai0 zai0) (om rfl (on ?_)))))
    exact ⟨(k + 1, v6x4), (by first | exact zai0 | (dsimp only; exact zai0)), ⟨⟨rfl, rfl⟩, ⟨rfl, rfl, trivial⟩, ⟨qza (by first | (rw [impF_yes (by omega) ⟨by omega, by omega⟩, List.map_append]; rfl) | (rw [impF_no (by omega) (by omega)])), trivial⟩, ⟨rfl, rfl⟩, ⟨rfl, rfl⟩⟩, (by first | exact zai0 | (dsimp only; exact zai0))⟩
   have h3r := h3
   try simp only [nq, nr, nl, qq4] at h3
   refine qqj (ar (qqa (qjh rfl rfl zai0 zai0) (om rfl (on ?_))))
   exact ⟨(k + 1, v), (by first | exact zai0 | (dsimp only; exact zai0)), ⟨⟨rfl, rfl⟩, ⟨rfl, rfl, trivial⟩, ⟨qza (by first | (rw [impF_yes (by omega) ⟨by omega, by omega⟩, List.map_append]; rfl) | (rw [impF_no (by omega) (by omega)])), trivial⟩, ⟨rfl, rfl⟩, ⟨rfl, rfl⟩⟩, (by first | exact zai0 | (dsimp only; exact zai0))⟩
  have h2r := h2
  try simp only [nq, nr, nl, qq4] at h2
  refine qqa (qqb rfl rfl h2r) (qqa (qqb rfl rfl h2r) (qqa (qqb rfl rfl h2r) (qqa (qqb rfl rfl h2r) (qqa (qqt rfl h2r (evo rfl)) (on (a_ff rfl ?_))))))
  refine qqj (ar (qqa (qjh rfl rfl zai0 zai0) (om rfl (on ?_))))
  exact ⟨(k + 1, v), (by first | exact zai0 | (dsimp only; exact zai0)), ⟨⟨rfl, rfl⟩, ⟨rfl, rfl, trivial⟩, ⟨qza (by first | (rw [impF_yes (by omega) ⟨by omega, by omega⟩, List.map_append]; rfl) | (rw [impF_no (by omega) (by omega)])), trivial⟩, ⟨rfl, rfl⟩, ⟨rfl, rfl⟩⟩, (by first | exact zai0 | (dsimp only; exact zai0))⟩
 have h1r := h1
 try simp only [nq, nr, nl, qq4] at h1
 refine qja (rs (om rfl (oa rfl (on (qqm ?_)))))
 exact ⟨[.own 6 v], .own 0 0, [], [.row 3 1 _], [(6, v)], ⟨rfl, trivial⟩, rfl, rfl, ⟨⟨rfl, rfl⟩, trivial⟩, rfl, rfl, ⟨rfl, rfl, by rw [List.take_of_length_le (by omega)]; rfl⟩⟩
theorem f_cloneI (ts : List Int) (hts : ts.length ≤ 1048576) : Fn Tryz.prog 108 [.sl (ts.map dI)] [] (fun rr ii nn => rr = .own 0 0 ∧ ii = [] ∧ nn = [.row 3 1 (ts.map dI)]) := by
 refine qjm Tryz.func108 rfl (nb rfl) fun w X g => ?_
 show AWp _ _ _ ⟨[(0, .sl (ts.map dI))], []⟩
 refine rs (oa rfl (on (qqe (rs (om rfl (op_eqnil Tryz.underlying23 rfl fun b1 hb1 => ?_))))))
 refine on (ac rfl (fun h2 => ?_) fun h2 => ?_)
 ·
  have h2r := h2
  try simp only [nq, nr, nl] at h2
  refine rs (oa rfl (on (qjt 2 2 3 1 rfl fun v2 => ?_)))
  refine qqm ?_
  exact ⟨[.own 2 v2], .own 0 0, [], [.row 3 1 _], [(2, v2)], ⟨rfl, trivial⟩, rfl, rfl, ⟨⟨rfl, rfl⟩, trivial⟩, rfl, rfl, ⟨rfl, rfl, by rw [hb1 h2]⟩⟩
 have h2r := h2
 try simp only [nq, nr, nl] at h2
 refine qqj (rs (qq5 (fun ver => j_bs0 qqz qz7 rfl rfl (by decide)) fun v5x1 => ?_))
 refine om rfl (qq5 (fun ver => qz8 qqz qz7 rfl rfl rfl rfl (by intro x hx; obtain ⟨t, _, rfl⟩ := List.mem_map.1 hx; rfl) (all_lf_dI ts) (by rw [qq0]; first | omega | (simp only [nr, nl]; omega)) zz) fun v5x2 => ?_)
 refine oa rfl (on (qqm ?_))
 exact ⟨[.own 5 v5x2], .own 0 0, [], [.row 3 1 _], [(5, v5x2)], ⟨rfl, trivial⟩, rfl, rfl, ⟨⟨rfl, rfl⟩, trivial⟩, rfl, rfl, ⟨rfl, rfl, rfl⟩⟩
theorem f_cloneC (ts : List Con) (hts : ts.length ≤ 1048576) : Fn Tryz.prog 57 [.sl (ts.map dC)] [] (fun rr ii nn => rr = .own 0 0 ∧ ii = [] ∧ nn = [.row 69 2 (ts.map dC)]) := by
 refine qjm Tryz.func57 rfl (nb rfl) fun w X g => ?_
 show AWp _ _ _ ⟨[(0, .sl (ts.map dC))], []⟩
 refine rs (oa rfl (on (qqe (rs (om rfl (op_eqnil Tryz.underlying30 rfl fun b1 hb1 => ?_))))))
 refine on (ac rfl (fun h2 => ?_) fun h2 => ?_)
 ·
  have h2r := h2
  try simp only [nq, nr, nl] at h2
  refine rs (oa rfl (on (qjt 2 2 69 2 rfl fun v2 => ?_)))
  refine qqm ?_
  exact ⟨[.own 2 v2], .own 0 0, [], [.row 69 2 _], [(2, v2)], ⟨rfl, trivial⟩, rfl, rfl, ⟨⟨rfl, rfl⟩, trivial⟩, rfl, rfl, ⟨rfl, rfl, by rw [hb1 h2]⟩⟩
 have h2r := h2
 try simp only [nq, nr, nl] at h2
 refine qqj (rs (qq5 (fun ver => j_bs0 slt30 qz5 rfl rfl (by decide)) fun v5x1 => ?_))
 refine om rfl (qq5 (fun ver => qz8 slt30 qz5 rfl rfl rfl rfl (by intro x hx; obtain ⟨t, _, rfl⟩ := List.mem_map.1 hx; rfl) (all_lf_dC ts) (by rw [qq0]; first | omega | (simp only [nr, nl]; omega)) zz) fun v5x2 => ?_)
 refine oa rfl (on (qqm ?_))
 exact ⟨[.own 5 v5x2], .own 0 0, [], [.row 69 2 _], [(5, v5x2)], ⟨rfl, trivial⟩, rfl, rfl, ⟨⟨rfl, rfl⟩, trivial⟩, rfl, rfl, ⟨rfl, rfl, rfl⟩⟩
theorem f_prop (l : List Con) (p : List Int) (hl : l.all cOk = true) (hll : l.length ≤ 3000) (hp : paOk p = true) : Fn Tryz.prog 182 [.sl (l.map dC), .sl (p.map dI)] [] (fun rr ii nn => rr = .tup [.own 0 0, .p (.int .i64 (prop l p).2)] ∧ ii = [] ∧ nn = [.row 3 1 ((prop l p).1.map dI)]) := by
 refine qjm Tryz.func182 rfl (nb rfl) fun w X g => ?_
 show AWp _ _ _ ⟨[(0, .sl (l.map dC)), (1, .sl (p.map dI))], []⟩
 have hpl := qxb hp
 refine rs (oa rfl (oa rfl (on (rs (om rfl ?_)))))
 refine qj9 (fun ver => qj8 (v := .own 13 ver) (hp1 := [(13, some (ver, .row 3 1 _))]) [] false [] ent108 (f_cloneI p (by omega)) ⟨.inl ⟨rfl, rfl⟩, trivial⟩ trivial rfl rfl rfl (fun h => by cases h) rfl (List.all_eq_true.1 rfl) (.inl rfl) rfl rfl) fun v13x1 => ?_
 refine oa rfl (on (qqe (rs (oa rfl (on (qqf (qqr (ι := List Int × Bool) (fun x => paOk x.1 = true ∧ (x.2 = false → prop l p = (x.1, -1)) ∧ (x.2 = true → prop l p = prop l x.1)) (fun x r => (7, .p (.bool (x.2))) :: r) (fun x r => (13, some (v13x1, .row 3 1 (x.1.map dI))) :: r) (fun x => 2 * zer x.1 + (if x.2 = true then 1 else 0)) (fun _ _ => rfl) (fun _ _ => rfl) (p, true) (by first | exact (by dsimp only; exact ⟨hp, fun h => absurd h (by decide), fun _ => rfl⟩) | (dsimp only; exact (by dsimp only; exact ⟨hp, fun h => absurd h (by decide), fun _ => rfl⟩))) ⟨⟨rfl, rfl⟩, ⟨rfl, trivial⟩, ⟨rfl, trivial⟩, ⟨rfl, rfl⟩, ⟨rfl, rfl⟩⟩ ?_)))))))
 rintro ⟨q, m⟩ hq; dsimp only at hq ⊢
 refine qqe (rs (om rfl (on (ac rfl (fun h1 => ?_) fun h1 => ?_))))
 ·
  have h1r := h1
  try simp only [nq, nr, nl, qq4] at h1
  refine qqj (qqf (rs (oa rfl (on (rs (om rfl (qqa (qqg Tryz.underlying30 rfl) (om rfl (on (qqf (qqr (ι := Nat × List Int) (fun x => x.1 ≤ l.length ∧ paOk x.2 = true ∧ rnd l 0 q = rnd (l.drop x.1) (x.1 : Int) x.2 ∧ zer x.2 ≤ zer q) (fun x r => (17, .p (.int .i64 ((x.1 : Nat)))) :: (7, .p (.bool (decide (zer x.2 < zer q)))) :: r) (fun x r => (13, some (v13x1, .row 3 1 (x.2.map dI))) :: r) (fun x => l.length - x.1) (fun _ _ => rfl) (fun _ _ => rfl) (0, q) (by first | exact ⟨Nat.zero_le _, hq.1, rfl, Nat.le_refl _⟩ | (dsimp only; exact ⟨Nat.zero_le _, hq.1, rfl, Nat.le_refl _⟩)) ⟨⟨rfl, rfl⟩, ⟨rfl, qqv (by dsimp only; symm; rw [decide_eq_false_iff_not]; omega), trivial⟩, ⟨rfl, trivial⟩, ⟨rfl, rfl⟩, ⟨rfl, rfl⟩⟩ ?_)))))))))))
  rintro ⟨k, q2⟩ hq2; dsimp only at hq2 ⊢
  refine rs (qqa (qzb rfl rfl) (on (qqe (ac rfl (fun h2 => ?_) fun h2 => ?_))))
  ·
   have h2r := h2
   try simp only [nq, nr, nl, qq4] at h2
   refine qqj (qqe (qqf (qqe ?_)))
   have hck := all_at (d := default) hl (k := k) zai0
   have hpl2 := qxb hq2.2.1
   refine ar (om rfl (qqa (qqy slt30 rfl rfl rfl (qqh zai0) rfl) (qqa (qzf (ys := [.sl _, .p _]) qzn rfl (qqh zai0) rfl (Nat.le_refl _)) (qq5 (fun ver => qjv qz5 rfl) fun v9x2 => ?_))))
   refine oa rfl (qjo (qqs qzn rfl rfl rfl rfl rfl rfl) ?_)
   refine on (qqe (rs (qqa (qqk (ys := [.sl _, .p _]) qzn rfl rfl rfl (nb rfl)) (om rfl ?_))))
   refine qq3 (qqn (v := .p _) (hp1 := []) [] true [13] ent227 (f_slack (l.getD k default) q2 hck hq2.2.1) ⟨.inl ⟨rfl, rfl⟩, .inr ⟨rfl, qzl rfl rfl, rfl⟩, trivial⟩ trivial rfl rfl (fun _ => rfl) rfl (fun _ h => by cases h) (.inr ⟨rfl, by first | exact pl_new1 (fun _ => rfl) | exact qz9 | (simp [plO, plV, plV.plL]; done)⟩) rfl rfl) ?_
   refine qqa (qzb rfl rfl) (on (ac rfl (fun h3 => ?_) fun h3 => ?_))
   ·
    have h3r := h3
    try simp only [nq, nr, nl, qq4] at h3
    refine qqe ?_
    have hhit := (hq.2.2 (by assumption)).trans (prop_bad (hq2.2.2.1.trans (rnd_hit zai0 (by omega))))
    refine ar (om rfl (om rfl (oa rfl (oa rfl (on (qqm ?_))))))
    exact ⟨[.own 13 v13x1, .p _], .tup [.own 0 0, .p _], [], [.row 3 1 _], [(13, v13x1)], ⟨rfl, rfl, trivial⟩, rfl, rfl, ⟨⟨rfl, rfl⟩, trivial⟩, rfl, rfl, ⟨by rw [hhit], rfl, by rw [hhit]⟩⟩
   have h3r := h3
   try simp only [nq, nr, nl, qq4] at h3
   refine qqj (rs (qqa (qqk (ys := [.sl _, .p _]) qzn rfl rfl rfl (nb rfl)) (om rfl ?_)))
   refine qj9 (fun ver => qj8 (v := .own 30 ver) (hp1 := [(30, some (ver, .row 3 1 _))]) [] true [13] ent228 (f_implied (l.getD k default) q2 hck hq2.2.1) ⟨.inl ⟨rfl, rfl⟩, .inr ⟨rfl, qzl rfl rfl, rfl⟩, trivial⟩ trivial rfl rfl rfl (fun _ => rfl) rfl (List.all_eq_true.1 rfl) (.inr ⟨rfl, by first | exact pl_new1 (fun _ => rfl) | exact qz9 | (simp [plO, plV, plV.plL]; done)⟩) rfl rfl) fun v30x3 => ?_
   refine qqa (qq7 Tryz.underlying23 rfl rfl) (om rfl (on (qqf (qqr (ι := Nat) (fun j => j ≤ (impC (l.getD k default) q2).length) (fun j r => (32, .p (.int .i64 ((j : Nat)))) :: (7, .p (.bool (decide (zer (asgL q2 ((impC (l.getD k default) q2).take j)) < zer q)))) :: r) (fun j r => (13, some (v13x1, .row 3 1 ((asgL q2 ((impC (l.getD k default) q2).take j)).map dI))) :: r) (fun j => (impC (l.getD k default) q2).length - j) (fun _ _ => rfl) (fun _ _ => rfl) 0 (Nat.zero_le _) ⟨⟨rfl, rfl⟩, ⟨rfl, qqv rfl, trivial⟩, ⟨qza rfl, trivial⟩, ⟨rfl, rfl⟩, ⟨rfl, rfl⟩⟩ ?_))))
   intro j hj
   refine rs (qqa (qzb rfl rfl) (on (qqe (ac rfl (fun h4 => ?_) fun h4 => ?_))))
   ·
    have h4r := h4
    try simp only [nq, nr, nl, qq4] at h4
    refine qqj (qqe (qqf (qqe ?_)))
    have hlo := litOk_iff.1 (impC_at hck (p := q2) (k := j) zai0)
    have hil := impC_len hck (p := q2)
    have hal := qq4 (p := q2) (ms := (impC (l.getD k default) q2).take j)
    refine ar (qqa (qqo qqz rfl rfl rfl rfl zai0) (qqa (qjd qq2 rfl rfl (qqh zai0) rfl) (oa rfl (on (rs (oa rfl (on (rs (om rfl (qqa (j_gt rfl rfl) (on (ac rfl (fun h5 => ?_) fun h5 => ?_))))))))))))
    ·
     have h5r := h5
     try simp only [nq, nr, nl, qq4] at h5
     refine ar (om rfl (om rfl (qqa (qzy rfl rfl zai0 zai0) (qqa (qqo (n := ((impC (l.getD k default) q2).getD j default - 1).toNat) qqz rfl rfl rfl (by omega) zai0) ?_))))
     refine qjo (qji qq2 rfl rfl zai0 (evo rfl) rfl rfl) ?_
     refine on (ar (qqa (qjh rfl rfl zai0 zai0) (om rfl (on ?_))))
     exact ⟨j + 1, zai0, ⟨⟨rfl, rfl⟩, ⟨rfl, qqv (by symm; rw [decide_eq_true_eq]; have hz1 := zer_imp hck (qxb hq2.2.1) (k := j + 1) zai0; omega), trivial⟩, ⟨qza (by rw [asgL_next zai0]; first | done | exact asg_rowp (by omega) | exact asg_rown (by omega) (by omega) | (unfold asg; rw [List.map_set]; try rfl)), trivial⟩, ⟨rfl, rfl⟩, ⟨rfl, rfl⟩⟩, zai0⟩
    have h5r := h5
    try simp only [nq, nr, nl, qq4] at h5
    refine ar (om rfl (om rfl (qqa (j_neg rfl zai0 zai0) (qqa (qzy rfl rfl zai0 zai0) (qqa (qqo (n := (-(impC (l.getD k default) q2).getD j default - 1).toNat) qqz rfl rfl rfl (by omega) zai0) ?_)))))
    refine qjo (qji qq2 rfl rfl zai0 (evo rfl) rfl rfl) ?_
    refine on (ar (qqa (qjh rfl rfl zai0 zai0) (om rfl (on ?_))))
    exact ⟨j + 1, zai0, ⟨⟨rfl, rfl⟩, ⟨rfl, qqv (by symm; rw [decide_eq_true_eq]; have hz1 := zer_imp hck (qxb hq2.2.1) (k := j + 1) zai0; omega), trivial⟩, ⟨qza (by rw [asgL_next zai0]; first | done | exact asg_rowp (by omega) | exact asg_rown (by omega) (by omega) | (unfold asg; rw [List.map_set]; try rfl)), trivial⟩, ⟨rfl, rfl⟩, ⟨rfl, rfl⟩⟩, zai0⟩
   have h4r := h4
   try simp only [nq, nr, nl, qq4] at h4
   refine qja (ar (qqa (qjh rfl rfl zai0 zai0) (om rfl (on ?_))))
   obtain rfl : j = (impC (l.getD k default) q2).length := zai0
   rw [List.take_length]
   have hza := zer_impA hck (qxb hq2.2.1)
   exact ⟨(k + 1, asgL q2 (impC (l.getD k default) q2)), (by first | exact ⟨by first | omega | (simp only [nr, nl, qq4]; omega), asgL_ok hq2.2.1, hq2.2.2.1.trans (rnd_step zai0 (by omega)), by omega⟩ | (dsimp only; exact ⟨by first | omega | (simp only [nr, nl, qq4]; omega), asgL_ok hq2.2.1, hq2.2.2.1.trans (rnd_step zai0 (by omega)), by omega⟩)), ⟨⟨rfl, rfl⟩, ⟨rfl, rfl, trivial⟩, ⟨rfl, trivial⟩, ⟨rfl, rfl⟩, ⟨rfl, rfl⟩⟩, (by first | exact zai0 | (dsimp only; exact zai0))⟩
  have h2r := h2
  try simp only [nq, nr, nl, qq4] at h2
  refine qja ?_
  obtain rfl : m = true := (by assumption)
  have hrd : rnd l 0 q = (q2, -1) := hq2.2.2.1.trans (rnd_end zai0)
  exact ⟨(q2, decide (zer q2 < zer q)), (by first | exact ⟨hq2.2.1, fun h => (hq.2.2 rfl).trans (prop_done hrd (of_decide_eq_false h)), fun h => (hq.2.2 rfl).trans (prop_again hrd (of_decide_eq_true h))⟩ | (dsimp only; exact ⟨hq2.2.1, fun h => (hq.2.2 rfl).trans (prop_done hrd (of_decide_eq_false h)), fun h => (hq.2.2 rfl).trans (prop_again hrd (of_decide_eq_true h))⟩)), ⟨⟨rfl, rfl⟩, ⟨rfl, trivial⟩, ⟨rfl, trivial⟩, ⟨rfl, rfl⟩, ⟨rfl, rfl⟩⟩, (by first | exact (by have hz := hq2.2.2.2; dsimp only; by_cases hzz : zer q2 < zer q; (· rw [if_pos (decide_eq_true hzz), if_pos rfl]; omega); (· rw [if_neg (by rw [decide_eq_false hzz]; decide), if_pos rfl]; omega)) | (dsimp only; exact (by have hz := hq2.2.2.2; dsimp only; by_cases hzz : zer q2 < zer q; (· rw [if_pos (decide_eq_true hzz), if_pos rfl]; omega); (· rw [if_neg (by rw [decide_eq_false hzz]; decide), if_pos rfl]; omega))))⟩
 have h1r := h1
 try simp only [nq, nr, nl, qq4] at h1
 refine qja (qqe ?_)
 have hend := hq.2.1 (by assumption)
 refine ar (om rfl (oa rfl (oa rfl (on (qqm ?_)))))
 exact ⟨[.own 13 v13x1, .p _], .tup [.own 0 0, .p _], [], [.row 3 1 _], [(13, v13x1)], ⟨rfl, rfl, trivial⟩, rfl, rfl, ⟨⟨rfl, rfl⟩, trivial⟩, rfl, rfl, ⟨by rw [hend], rfl, by rw [hend]⟩⟩
end Go.Ab

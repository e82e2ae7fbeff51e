/- Walks. -/
import Derived.Test.YtoodaakcfelaaaaGreatBase2
import Derived.Test.YtoodaakcfelaaaaGreatEnc4
import Derived.Test.YtoodaakcfelaaaaGreatWsclop
import Derived.Test.YtoodaakcfelaaaaGreatWsrun3
import Derived.Test.YtoodaakcfelaaaaGreatWssolveo
import Derived.Test.YtoodaakcfelaaaaGreatWsflt
namespace Go.Ab
open Go.Proofs
set_option maxRecDepth 100000
set_option maxHeartbeats 8000000
set_option linter.unusedSimpArgs false
set_option linter.unusedVariables false
theorem zat1 {p : Prop} (h : p := by first | omega | (simp only [nr, nl, qj0, qj1, qjc, qjx]; omega)) : p := h
theorem zat2 {p : Prop} (h : p := by first | omega | (simp only [nr, nl, notL_len]; omega)) : p := h
theorem zat3 {p : Prop} (h : p := by first | omega | (simp only [nr, nl, boxN_len]; omega)) : p := h
theorem f_bv (m : Md) (c : Nat) (x : Int) (hm : mOk m = true) (hc : c < m.1.length) (hx : 0 ≤ x ∧ x ≤ 3) : Fn Tryz.prog 114 [.agg [.sl (m.1.map dI), .sl (m.2.map dR)], .p (.int .i64 ((c : Nat))), .p (.int .i64 (x))] [] (fun rr ii nn => rr = .p (.int .i64 (bvI m.1 c x)) ∧ ii = [] ∧ nn = []) := by
 refine qjm Tryz.func114 rfl (nb rfl) fun w X g => ?_
 show AWp _ _ _ ⟨[(0, .agg [.sl (m.1.map dI), .sl (m.2.map dR)]), (1, .p (.int .i64 ((c : Nat)))), (2, .p (.int .i64 (x)))], []⟩
 have hms := qzx hm
 refine rs (qq5 (fun ver => qj3 rfl) fun v3x1 => ?_)
 refine oa rfl (on (rs (om rfl (qqa (qjh rfl rfl zz zz) (oa rfl (on (qqe (rs (qqa (qqi qjs rfl rfl) (qqa (qqc qq9 rfl rfl rfl) (om rfl ?_)))))))))))
 refine qqa (j_cut qqz rfl (fun y hy => by obtain ⟨t, _, rfl⟩ := List.mem_map.1 hy; rfl) Bd.none (Bd.some rfl rfl) zz zz) ?_
 try rw [← List.map_take]
 refine qqa (qqg Tryz.underlying23 rfl) (om rfl (on (qqf (qqr (ι := Nat) (fun k => k ≤ c) (fun k r => (17, .p (.int .i64 ((k : Nat)))) :: (7, .p (.int .i64 (1 + x + szSum (m.1.take k)))) :: r) (fun k r => r) (fun k => c - k) (fun _ _ => rfl) (fun _ _ => rfl) 0 zz ⟨⟨rfl, rfl⟩, ⟨rfl, qzg (by simp [szSum]), trivial⟩, trivial, ⟨rfl, rfl⟩, ⟨rfl, rfl⟩⟩ ?_))))
 intro k hpre0
 refine rs (qqa (qzb rfl rfl) (on (qqe (ac rfl (fun h1 => ?_) fun h1 => ?_))))
 ·
  have h1r := h1
  try simp only [nq, nr, nl] at h1
  refine qqj (qqe (qqf (rs (qqa (qqy qqz rfl rfl rfl (qqh zz) rfl) (qqa (qqp qq2 rfl (qqh zz) rfl) (oa rfl (on ?_)))))))
  have hsk := sz_upto hm (c := k) zz
  have htk : (m.1.take c).getD k default = m.1.getD k default := getD_takeL zz
  have hmk := hms.2 k zz
  refine ar (om rfl (om rfl (qqa (qjh rfl rfl zz zz) (qqa (qjh rfl rfl zz zz) (oa rfl (on (ar (qqa (qjh rfl rfl zz zz) (om rfl (on ?_))))))))))
  exact ⟨k + 1, zz, ⟨⟨rfl, rfl⟩, ⟨rfl, qzg (by rw [szSum_next zz, htk]; omega), trivial⟩, trivial, ⟨rfl, rfl⟩, ⟨rfl, rfl⟩⟩, zz⟩
 have h1r := h1
 try simp only [nq, nr, nl] at h1
 refine qja (rs (om rfl (oa rfl (on (qqm ?_)))))
 exact qq8 rfl ⟨by rw [show k = c by first | omega | (simp only [nr, nl]; omega)]; rfl, rfl, rfl⟩
theorem f_boolVar (m : Md) (c x : Nat) (hm : mOk m = true) (hc : c < m.1.length) (hx : (x : Int) ≤ m.1.getD c default) : Fn Tryz.prog 43 [.agg [.sl (m.1.map dI), .sl (m.2.map dR)], .p (.int .i64 ((c : Nat))), .p (.int .i64 ((x : Nat)))] [] (fun rr ii nn => rr = .p (.int .i64 (bvI m.1 c x)) ∧ ii = [] ∧ nn = []) := by
 refine qjm Tryz.func43 rfl (nb rfl) fun w X g => ?_
 show AWp _ _ _ ⟨[(0, .agg [.sl (m.1.map dI), .sl (m.2.map dR)]), (1, .p (.int .i64 ((c : Nat)))), (2, .p (.int .i64 ((x : Nat))))], []⟩
 have hms := qzx hm
 have hmk := hms.2 c hc
 refine rs (qq5 (fun ver => qj3 rfl) fun v3x1 => ?_)
 refine oa rfl (on (qqe (rs (qqa (qqk (ys := [.sl _, .sl _]) qjw rfl rfl rfl (nb rfl)) ?_))))
 refine qq3 (qqn (v := .p _) (hp1 := []) [] false [] ent90 (f_mvImpl m) ⟨.inl ⟨rfl, rfl⟩, trivial⟩ trivial rfl rfl (fun h => by cases h) rfl (fun _ h => by cases h) (.inl rfl) rfl rfl) ?_
 refine qqa (qzw rfl) (om rfl (qqx 10 rfl (fun h1 => ?_) (fun h1 => ?_)))
 ·
  have h1r := h1
  try simp only [nq, nr, nl] at h1
  refine qqa (qqb rfl rfl h1r) (qqa (qqb rfl rfl h1r) (qqa (qqb rfl rfl h1r) (qqa (qqb rfl rfl h1r) (qqa (qqb rfl rfl h1r) (qqa (qqb rfl rfl h1r) (qqa (qqb rfl rfl h1r) (qqa (qqu rfl h1r (evo rfl)) (om rfl (qqa (qqb rfl rfl rfl) (qqa (qqb rfl rfl rfl) (qqa (qqb rfl rfl rfl) (qqa (qqb rfl rfl rfl) (qqa (qqb rfl rfl rfl) ?_)))))))))))))
  refine qqa (qqb rfl rfl rfl) (qqa (qqb rfl rfl rfl) (qqa (qqb rfl rfl rfl) (qqa (qqu rfl rfl (evo rfl)) (on (a_tt rfl ?_)))))
  refine rs (oa rfl (on (qqm ?_)))
  exact qq8 rfl ⟨by first | rfl | (exfalso; simp_all; done) | (exfalso; simp_all; omega), rfl, rfl⟩
 have h1r := h1
 try simp only [nq, nr, nl] at h1
 refine qqa (qqd rfl rfl h1r (qql (evo rfl))) (qqa (qqd rfl rfl h1r (qqi qjs rfl rfl)) (qqa (qqd rfl rfl h1r (qqc qq9 rfl rfl rfl)) (qqa (qqd rfl rfl h1r (qqg Tryz.underlying23 rfl)) (qqa (qqd rfl rfl h1r (qzy rfl rfl zz zz)) ?_))))
 refine qq3 (qqd rfl rfl h1r (qqn (v := .p _) (hp1 := []) [] false [] ent113 (qxa (c : Nat) 0 ((m.1.length : Int) - 1)) ⟨.inl ⟨rfl, rfl⟩, .inl ⟨rfl, rfl⟩, .inl ⟨rfl, rfl⟩, trivial⟩ trivial rfl rfl (fun h => by cases h) rfl (fun _ h => by cases h) (.inl rfl) rfl rfl)) ?_
 refine qqa (qqd rfl rfl h1r (qzw rfl)) (qqa (qqt rfl h1r (evo rfl)) (om rfl (qqx 19 rfl (fun h2 => ?_) (fun h2 => ?_))))
 ·
  have h2r := h2
  try simp only [nq, nr, nl] at h2
  refine qqa (qqb rfl rfl h2r) (qqa (qqb rfl rfl h2r) (qqa (qqb rfl rfl h2r) (qqa (qqb rfl rfl h2r) (qqa (qqb rfl rfl h2r) (qqa (qqb rfl rfl h2r) (qqa (qqb rfl rfl h2r) (qqa (qqb rfl rfl h2r) (qqa (qqu rfl h2r (evo rfl)) (on (a_tt rfl ?_))))))))))
  refine rs (oa rfl (on (qqm ?_)))
  exact qq8 rfl ⟨by first | rfl | (exfalso; simp_all; done) | (exfalso; simp_all; omega), rfl, rfl⟩
 have h2r := h2
 try simp only [nq, nr, nl] at h2
 refine qqa (qqd rfl rfl h2r (qql (evo rfl))) (qqa (qqd rfl rfl h2r (qqi qjs rfl rfl)) (qqa (qqd rfl rfl h2r (qqc qq9 rfl rfl rfl)) (qqa (qqd rfl rfl h2r (qql (evo rfl))) (qqa (qqd rfl rfl h2r (qqy (n := c) qqz rfl rfl zz (qqh zz) rfl)) (qqa (qqd rfl rfl h2r (qqp qq2 rfl (qqh zz) rfl)) ?_)))))
 refine qq3 (qqd rfl rfl h2r (qqn (v := .p _) (hp1 := []) [] false [] ent113 (qxa (x : Nat) 0 (m.1.getD c default)) ⟨.inl ⟨rfl, rfl⟩, .inl ⟨rfl, rfl⟩, .inl ⟨rfl, rfl⟩, trivial⟩ trivial rfl rfl (fun h => by cases h) rfl (fun _ h => by cases h) (.inl rfl) rfl rfl)) ?_
 refine qqa (qqd rfl rfl h2r (qzw rfl)) (qqa (qqt rfl h2r (evo rfl)) (on (ac rfl (fun h3 => ?_) fun h3 => ?_)))
 ·
  have h3r := h3
  try simp only [nq, nr, nl] at h3
  exact absurd h3r (by simp; omega)
 have h3r := h3
 try simp only [nq, nr, nl] at h3
 refine qqj (rs (qqa (qqk (ys := [.sl _, .sl _]) qjw rfl rfl rfl (nb rfl)) (om rfl (om rfl ?_))))
 refine qq3 (qqn (v := .p _) (hp1 := []) [] false [] ent114 (f_bv m c x hm hc (by omega)) ⟨.inl ⟨rfl, rfl⟩, .inl ⟨rfl, rfl⟩, .inl ⟨rfl, rfl⟩, trivial⟩ trivial rfl rfl (fun h => by cases h) rfl (fun _ h => by cases h) (.inl rfl) rfl rfl) ?_
 refine oa rfl (on (qqm ?_))
 exact qq8 rfl ⟨by first | rfl | (exfalso; simp_all; done) | (exfalso; simp_all; omega), rfl, rfl⟩
theorem f_amo (vs : List Int) (hv : vs.length ≤ 100) (hr : ∀ v ∈ vs, 1 ≤ v ∧ v ≤ 12) : Fn Tryz.prog 92 [.sl (vs.map dI)] [] (fun rr ii nn => rr = .agg [.sl ((amoC vs).1.map dT), .p (.int .i64 (amoC vs).2)] ∧ ii = [] ∧ nn = []) := by
 refine qjm Tryz.func92 rfl (nb rfl) fun w X g => ?_
 show AWp _ _ _ ⟨[(0, .sl (vs.map dI))], []⟩
 refine rs (qq5 (fun ver => qjv qz5 rfl) fun v2x1 => ?_)
 refine on (rs (om rfl (qqa (qqg Tryz.underlying23 rfl) (qqa (qzy rfl rfl zz zz) (qqa (qzu (parts := [(1, .tmp 8)]) str69 qz5 rfl rfl) (qq5 (fun ver => qjv qz5 rfl) fun v3x2 => ?_))))))
 refine qjo (qqs qzn rfl rfl rfl rfl rfl rfl) ?_
 refine on (qj2 0 1003 135 2 (by decide) (id := 3) rfl rfl fun v1003x3 => ?_)
 refine qqe (rs (om rfl (qqa (qqg Tryz.underlying23 rfl) (om rfl (on (qqf (qqr (ι := Nat × Nat) (fun x => x.1 ≤ vs.length) (fun x r => (12, .p (.int .i64 ((x.1 : Nat)))) :: r) (fun x r => (3, some (v3x2, .box 69 [.own 1003 x.2, .p (.int .i64 ((vs.length : Int) - 1))])) :: (1003, some (x.2, .row 135 2 (((vs.take x.1).map (fun v => ((1 : Int), -v))).map dT))) :: r) (fun x => vs.length - x.1) (fun _ _ => rfl) (fun _ _ => rfl) (0, v1003x3) (by first | exact (Nat.zero_le _) | (dsimp only; exact (Nat.zero_le _))) ⟨⟨rfl, rfl⟩, ⟨rfl, trivial⟩, ⟨rfl, rfl, trivial⟩, ⟨rfl, rfl⟩, ⟨rfl, rfl⟩⟩ ?_)))))))
 rintro ⟨k, v⟩ hk; dsimp only at hk ⊢
 refine rs (qqa (qzb rfl rfl) (on (qqe (ac rfl (fun h1 => ?_) fun h1 => ?_))))
 ·
  have h1r := h1
  try simp only [nq, nr, nl] at h1
  refine qqj (qqe (qqf (qqe ?_)))
  have hvk := hr _ (qzo (d := default) (show k < vs.length from zz))
  refine ar (qqa (qqy qqz rfl rfl rfl (qqh zz) rfl) (qqa (qqp qq2 rfl (qqh zz) rfl) (oa rfl (on (ar (qqa (qqi fld69f0 rfl rfl) (qqa (qqc leaf67 rfl rfl rfl) (om rfl (qqa (j_neg rfl zz zz) (qqa (qzu (parts := [(0, .const (.int .i64 1)), (1, .tmp 19)]) str135 qz3 rfl rfl) ?_))))))))))
  refine qq5 (fun ver => qqw (parts := [(0, .tmp 20)]) (es := [[_, _]]) slt67 qz3 rfl rfl (by decide) (by decide) rfl rfl (by simp) rfl) fun v21x4 => ?_
  refine qq5 (fun ver => qq6 slt67 qz3 rfl rfl rfl rfl rfl rfl (by rw [qq0]; first | omega | (simp only [nr, nl]; omega)) zz) fun v1003x5 => ?_
  refine qqa (qqi fld69f0 rfl rfl) (qjo (qje leaf67 rfl rfl (nb rfl) (evo rfl) rfl) ?_)
  refine on (ar (qqa (qjh rfl rfl zz zz) (om rfl (on ?_))))
  exact ⟨(k + 1, v1003x5), (by first | exact zz | (dsimp only; exact zz)), ⟨⟨rfl, rfl⟩, ⟨rfl, trivial⟩, ⟨rfl, qza (by dsimp only; rw [qjn (d := (default : Int)) zz, List.map_append, List.map_append]; rfl), trivial⟩, ⟨rfl, rfl⟩, ⟨rfl, rfl⟩⟩, (by first | exact zz | (dsimp only; exact zz))⟩
 have h1r := h1
 try simp only [nq, nr, nl] at h1
 refine qja (qqe (qjf 0 3 (by decide) trivial rfl rfl rfl rfl ?_))
 try dsimp only [List.set]
 refine ar (qqa (qqk (ys := [.sl _, .p _]) qzn rfl rfl rfl (nb rfl)) (qjo (qqs qzn rfl rfl rfl rfl rfl rfl) ?_))
 refine on (qqm ?_)
 exact ⟨[.agg [.sl _, .p _]], .agg [.sl _, .p _], [], [], [], ⟨⟨_, _, _, _, rfl, rfl, qzn, rfl⟩, trivial⟩, rfl, rfl, trivial, rfl, rfl, ⟨by rw [show k = vs.length by first | omega | (simp only [nr, nl]; omega), List.take_length]; rfl, rfl, rfl⟩⟩
theorem f_varsOf (m : Md) (c : Nat) (hm : mOk m = true) (hc : c < m.1.length) : Fn Tryz.prog 91 [.agg [.sl (m.1.map dI), .sl (m.2.map dR)], .p (.int .i64 ((c : Nat)))] [] (fun rr ii nn => rr = .own 0 0 ∧ ii = [] ∧ nn = [.row 3 1 ((boxV m.1 c).map dI)]) := by
 refine qjm Tryz.func91 rfl (nb rfl) fun w X g => ?_
 show AWp _ _ _ ⟨[(0, .agg [.sl (m.1.map dI), .sl (m.2.map dR)]), (1, .p (.int .i64 ((c : Nat))))], []⟩
 have hms := qzx hm
 have hmc := hms.2 c hc
 have hsc := szN_eq hm hc
 refine rs (qq5 (fun ver => qj3 rfl) fun v2x1 => ?_)
 refine oa rfl (on (rs (oa rfl (on (qjt 5 5 3 1 rfl fun v5 => ?_)))))
 refine qqe (rs (qqa (qqi qjs rfl rfl) (qqa (qqc qq9 rfl rfl rfl) (om rfl (qqa (qqy (n := c) qqz rfl rfl zat3 (qqh zat3) rfl) (qqa (qqp qq2 rfl (qqh zat3) rfl) (qqa (qjh rfl rfl zat3 zat3) (om rfl (on (qqf (qqr (ι := Nat × Nat) (fun x => x.1 ≤ szN m.1 c) (fun x r => (13, .p (.int .i64 ((x.1 : Nat)))) :: (5, .own 5 x.2) :: r) (fun x r => (5, some (x.2, .row 3 1 ((boxN m.1 c x.1).map dI))) :: r) (fun x => szN m.1 c - x.1) (fun _ _ => rfl) (fun _ _ => rfl) (0, v5) (by first | exact (Nat.zero_le _) | (dsimp only; exact (Nat.zero_le _))) ⟨⟨rfl, rfl⟩, ⟨rfl, rfl, trivial⟩, ⟨rfl, trivial⟩, ⟨rfl, rfl⟩, ⟨rfl, rfl⟩⟩ ?_)))))))))))
 rintro ⟨k, v⟩ hk; dsimp only at hk ⊢
 refine rs (qqa (qzb rfl rfl) (on (qqe (ac rfl (fun h1 => ?_) fun h1 => ?_))))
 ·
  have h1r := h1
  try simp only [nq, nr, nl, boxN_len] at h1
  refine qqj (qqe (qqf (rs (om rfl (oa rfl (on (ar (om rfl (qqa (qqk (ys := [.sl _, .sl _]) qjw rfl rfl rfl (nb rfl)) (om rfl (om rfl ?_)))))))))))
  refine qq3 (qqn (v := .p _) (hp1 := []) [] false [] ent114 (f_bv m c (k : Nat) hm hc zat3) ⟨.inl ⟨rfl, rfl⟩, .inl ⟨rfl, rfl⟩, .inl ⟨rfl, rfl⟩, trivial⟩ trivial rfl rfl (fun h => by cases h) rfl (fun _ h => by cases h) (.inl rfl) rfl rfl) ?_
  refine qq5 (fun ver => qqw (parts := [(0, .tmp 20)]) (es := [[_]]) qqz qz7 rfl rfl (by decide) (by decide) rfl rfl (by simp) rfl) fun v21x2 => ?_
  refine qq5 (fun ver => qq6 qqz qz7 rfl rfl rfl rfl rfl rfl (by rw [qq0]; first | omega | (simp only [nr, nl, boxN_len]; omega)) zat3) fun v5x3 => ?_
  refine oa rfl (on (ar (qqa (qjh rfl rfl zat3 zat3) (om rfl (on ?_)))))
  exact ⟨(k + 1, v5x3), (by first | exact zat3 | (dsimp only; exact zat3)), ⟨⟨rfl, rfl⟩, ⟨rfl, rfl, trivial⟩, ⟨qza (by dsimp only; rw [boxN_next, List.map_append]; rfl), trivial⟩, ⟨rfl, rfl⟩, ⟨rfl, rfl⟩⟩, (by first | exact zat3 | (dsimp only; exact zat3))⟩
 have h1r := h1
 try simp only [nq, nr, nl, boxN_len] at h1
 refine qja (rs (om rfl (oa rfl (on (qqm ?_)))))
 exact ⟨[.own 5 v], .own 0 0, [], [.row 3 1 _], [(5, v)], ⟨rfl, trivial⟩, rfl, rfl, ⟨⟨rfl, rfl⟩, trivial⟩, rfl, rfl, ⟨rfl, rfl, by rw [show k = szN m.1 c by first | omega | (simp only [nr, nl, boxN_len]; omega)]; rfl⟩⟩
theorem f_isNaN (a : Int) : Fn Tryz.prog 274 [.p (.int .i64 (a))] [] (fun rr ii nn => rr = .p (.bool (false)) ∧ ii = [] ∧ nn = []) := by
 refine qjm Tryz.func274 rfl (nb rfl) fun w X g => ?_
 show AWp _ _ _ ⟨[(0, .p (.int .i64 (a)))], []⟩
 refine rs (oa rfl (on (rs (om rfl (om rfl (qqa (j_ne rfl rfl) (oa rfl (on (qqm ?_)))))))))
 exact qq8 rfl ⟨qqv (by simp), rfl, rfl⟩
theorem f_cmpLess (a b : Int) : Fn Tryz.prog 252 [.p (.int .i64 (a)), .p (.int .i64 (b))] [] (fun rr ii nn => rr = .p (.bool (decide (a < b))) ∧ ii = [] ∧ nn = []) := by
 refine qjm Tryz.func252 rfl (nb rfl) fun w X g => ?_
 show AWp _ _ _ ⟨[(0, .p (.int .i64 (a))), (1, .p (.int .i64 (b)))], []⟩
 refine rs (oa rfl (on (rs (om rfl ?_))))
 refine qq3 (qqn (v := .p _) (hp1 := []) [] false [] ent274 (f_isNaN a) ⟨.inl ⟨rfl, rfl⟩, trivial⟩ trivial rfl rfl (fun h => by cases h) rfl (fun _ h => by cases h) (.inl rfl) rfl rfl) ?_
 refine om rfl (qqx 7 rfl (fun h1 => ?_) (fun h1 => ?_))
 ·
  have h1r := h1
  try simp only [nq, nr] at h1
  refine qqa (qqd rfl rfl h1r (qql (evo rfl))) ?_
  refine qq3 (qqd rfl rfl h1r (qqn (v := .p _) (hp1 := []) [] false [] ent274 (f_isNaN b) ⟨.inl ⟨rfl, rfl⟩, trivial⟩ trivial rfl rfl (fun h => by cases h) rfl (fun _ h => by cases h) (.inl rfl) rfl rfl)) ?_
  refine qqa (qqd rfl rfl h1r (qzw rfl)) (qqa (qqu rfl h1r (evo rfl)) (om rfl (qqx 12 rfl (fun h2 => ?_) (fun h2 => ?_))))
  ·
   have h2r := h2
   try simp only [nq, nr] at h2
   refine qqa (qqb rfl rfl h2r) (qqa (qqb rfl rfl h2r) (qqa (qqb rfl rfl h2r) (qqa (qqu rfl h2r (evo rfl)) (oa rfl (on (qqm ?_))))))
   exact qq8 rfl ⟨qqv (by simp_all), rfl, rfl⟩
  have h2r := h2
  try simp only [nq, nr] at h2
  refine qqa (qqd rfl rfl h2r (qql (evo rfl))) (qqa (qqd rfl rfl h2r (qql (evo rfl))) (qqa (qqd rfl rfl h2r (qzb rfl rfl)) (qqa (qqt rfl h2r (evo rfl)) (oa rfl (on (qqm ?_))))))
  exact qq8 rfl ⟨qqv (by simp_all), rfl, rfl⟩
 have h1r := h1
 try simp only [nq, nr] at h1
 refine qqa (qqb rfl rfl h1r) (qqa (qqb rfl rfl h1r) (qqa (qqb rfl rfl h1r) (qqa (qqt rfl h1r (evo rfl)) (om rfl (qqa (qqd rfl rfl rfl (qql (evo rfl))) (qqa (qqd rfl rfl rfl (qql (evo rfl))) (qqa (qqd rfl rfl rfl (qzb rfl rfl)) (qqa (qqt rfl rfl (evo rfl)) (oa rfl (on (qqm ?_)))))))))))
 exact qq8 rfl ⟨qqv (by simp_all), rfl, rfl⟩
theorem f_insOrd (L : List Int) (h : apt L) (hpos : ∀ v ∈ L, 1 ≤ v ∧ v ≤ 12) : Fn Tryz.prog 246 [.own 0 0, .p (.int .i64 (0)), .p (.int .i64 ((L.length : Nat)))] [.row 3 1 (L.map dI)] (fun rr ii nn => rr = .tup [] ∧ ii = [.row 3 1 ((srtS L).map dI)] ∧ nn = []) := by
 refine qjm Tryz.func246 rfl (nb rfl) fun w X g => ?_
 show AWp _ _ _ ⟨[(0, .own 0 0), (1, .p (.int .i64 (0))), (2, .p (.int .i64 ((L.length : Nat))))], [(0, some (0, .row 3 1 (L.map dI)))]⟩
 have hl12 := apt_len h
 refine rs (om rfl (qqa (qjh rfl rfl zz zz) (oa rfl (on (qqf (qqr (ι := Nat × List Int) (fun x => x.2.Perm L ∧ 1 ≤ x.1 ∧ ordI x.2 x.1) (fun x r => (6, .p (.int .i64 ((x.1 : Nat)))) :: r) (fun x r => (0, some (0, .row 3 1 (x.2.map dI))) :: r) (fun x => L.length - x.1) (fun _ _ => rfl) (fun _ _ => rfl) (1, L) (by first | exact ⟨List.Perm.refl _, Nat.le_refl _, ord_one⟩ | (dsimp only; exact ⟨List.Perm.refl _, Nat.le_refl _, ord_one⟩)) ⟨⟨rfl, rfl⟩, ⟨rfl, trivial⟩, ⟨rfl, trivial⟩, ⟨rfl, rfl⟩, ⟨rfl, rfl⟩⟩ ?_))))))
 rintro ⟨i, M⟩ hm; dsimp only at hm ⊢
 refine qqe (rs (om rfl (om rfl (qqa (qzb rfl rfl) (on (ac rfl (fun h1 => ?_) fun h1 => ?_))))))
 ·
  have h1r := h1
  try simp only [nq, nr, nl] at h1
  refine qqj (qqe (qqf (qqe ?_)))
  have hlm := hm.1.length_eq
  refine ar (om rfl (oa rfl (on (qqf ?_))))
  refine qqr (ι := Nat × List Int) (fun x => x.2.Perm L ∧ x.1 ≤ i ∧ i < L.length ∧ insI x.2 i x.1) (fun x r => (7, .p (.int .i64 ((x.1 : Nat)))) :: (6, .p (.int .i64 ((i : Nat)))) :: r) (fun x r => (0, some (0, .row 3 1 (x.2.map dI))) :: r) (fun x => x.1) (fun _ _ => rfl) (fun _ _ => rfl) (i, M) (by first | exact ⟨hm.1, Nat.le_refl _, by omega, ins_start hm.2.2⟩ | (dsimp only; exact ⟨hm.1, Nat.le_refl _, by omega, ins_start hm.2.2⟩)) ⟨⟨rfl, rfl⟩, ⟨rfl, rfl, trivial⟩, ⟨rfl, trivial⟩, ⟨rfl, rfl⟩, ⟨rfl, rfl⟩⟩ ?_
  rintro ⟨j, M⟩ hm; dsimp only at hm ⊢
  refine qqe (qqe ?_)
  have hlm := hm.1.length_eq
  have hvj := srt_var hm.1 hpos (j := j)
  have hvj1 := srt_var hm.1 hpos (j := j - 1)
  refine qjz qzj (by kernel_rfl) (by kernel_rfl) fun vf => ?_
  refine qqq (qql (evo rfl)) (qqq (qql (evo rfl)) (qqq (j_gt rfl rfl) (qqq (qql (evo rfl)) (d_split' 19 rfl (fun h2 => ?_) (fun h2 => ?_)))))
  ·
   have h2r := h2
   try simp only [nq, nr, nl] at h2
   refine qqq (qqd rfl rfl h2r (qql (evo rfl))) (qqq (qqd rfl rfl h2r (qql (evo rfl))) (qqq (qqd rfl rfl h2r (qqo (n := j) qqz rfl rfl rfl zz zz)) (qqq (qqd rfl rfl h2r (qjd qq2 rfl rfl (qqh zz) rfl)) (qqq (qqd rfl rfl h2r (qql (evo rfl))) (qqq (qqd rfl rfl h2r (qql (evo rfl))) (qqq (qqd rfl rfl h2r (qzy rfl rfl zz zz)) (qqq (qqd rfl rfl h2r (qqo (n := j - 1) qqz rfl rfl rfl (by omega) zz)) (qqq (qqd rfl rfl h2r (qjd qq2 rfl rfl (qqh zz) rfl)) ?_))))))))
   refine d_v0' (qqd rfl rfl h2r (qqn (v := .p _) (hp1 := []) [] false [] ent252 (f_cmpLess (M.getD j default) (M.getD (j - 1) default)) ⟨.inl ⟨rfl, rfl⟩, .inl ⟨rfl, rfl⟩, trivial⟩ trivial rfl rfl (fun h => by cases h) rfl (fun _ h => by cases h) (.inl rfl) rfl rfl)) ?_
   refine qqq (qqu rfl h2r (evo rfl)) (qze (by kernel_rfl) (by kernel_rfl) ?_)
   refine ac rfl (fun h3 => ?_) fun h3 => ?_
   ·
    have h3r := h3
    try simp only [nq, nr, nl] at h3
    refine qqj (qqe (qqf ?_))
    have hlm := hm.1.length_eq
    refine qjz qzj (by kernel_rfl) (by kernel_rfl) fun vf => ?_
    refine qqq (qql (evo rfl)) (qqq (qql (evo rfl)) (qqq (qql (evo rfl)) (qqq (qql (evo rfl)) (qqq (qzy rfl rfl zz zz) (qqq (qql (evo rfl)) (qqq (qql (evo rfl)) (qqq (qzy rfl rfl zz zz) (qqq (qqo (n := j - 1) qqz rfl rfl rfl (by omega) zz) (qqq (qjd qq2 rfl rfl (qqh zz) rfl) (qqq (qql (evo rfl)) (qqq (qql (evo rfl)) (qqq (qqo (n := j) qqz rfl rfl rfl zz zz) (qqq (qjd qq2 rfl rfl (qqh zz) rfl) ?_)))))))))))))
    refine qqq (qqo (n := j) qqz rfl rfl rfl zz zz) (d_s' (qji qq2 rfl rfl zz (evo rfl) rfl rfl) ?_)
    refine qqq (qqo (n := j - 1) qqz rfl rfl rfl (by omega) zz) (d_s' (qji qq2 rfl rfl zz (evo rfl) rfl rfl) ?_)
    refine qze (by kernel_rfl) (by kernel_rfl) ?_
    refine ar (om rfl (qqa (qzy rfl rfl zz zz) (oa rfl (on ?_))))
    exact ⟨(j - 1, swpL M j), (by first | exact ⟨(swp_perm (by omega) (by omega)).trans hm.1, by omega, hm.2.2.1, ins_step hm.2.2.2 (by omega) hm.2.1 (by omega) (by rw [hvj (by omega), hvj1 (by omega)]; omega)⟩ | (dsimp only; exact ⟨(swp_perm (by omega) (by omega)).trans hm.1, by omega, hm.2.2.1, ins_step hm.2.2.2 (by omega) hm.2.1 (by omega) (by rw [hvj (by omega), hvj1 (by omega)]; omega)⟩)), ⟨⟨rfl, rfl⟩, ⟨qzg (by omega), rfl, trivial⟩, ⟨qza swp_row, trivial⟩, ⟨rfl, rfl⟩, ⟨rfl, rfl⟩⟩, (by first | exact (by omega) | (dsimp only; exact (by omega)))⟩
   have h3r := h3
   try simp only [nq, nr, nl] at h3
   refine qja (ar (om rfl (qqa (qjh rfl rfl zz zz) (oa rfl (on ?_)))))
   exact ⟨(i + 1, M), (by first | exact ⟨hm.1, by omega, ins_end hm.2.2.2 hm.2.1 (by first | exact .inl (by omega) | exact .inr (by have h9 := perm_ne hm.1 h (i := j - 1) (j := j) (by omega) (by omega) (by omega); rw [hvj (by omega), hvj1 (by omega)] at *; omega))⟩ | (dsimp only; exact ⟨hm.1, by omega, ins_end hm.2.2.2 hm.2.1 (by first | exact .inl (by omega) | exact .inr (by have h9 := perm_ne hm.1 h (i := j - 1) (j := j) (by omega) (by omega) (by omega); rw [hvj (by omega), hvj1 (by omega)] at *; omega))⟩)), ⟨⟨rfl, rfl⟩, ⟨rfl, trivial⟩, ⟨rfl, trivial⟩, ⟨rfl, rfl⟩, ⟨rfl, rfl⟩⟩, (by first | exact (by have := hm.1.length_eq; omega) | (dsimp only; exact (by have := hm.1.length_eq; omega)))⟩
  have h2r := h2
  try simp only [nq, nr, nl] at h2
  refine qqq (qqb rfl rfl h2r) (qqq (qqb rfl rfl h2r) (qqq (qqb rfl rfl h2r) (qqq (qqb rfl rfl h2r) (qqq (qqb rfl rfl h2r) (qqq (qqb rfl rfl h2r) (qqq (qqb rfl rfl h2r) (qqq (qqb rfl rfl h2r) (qqq (qqb rfl rfl h2r) (qqq (qqb rfl rfl h2r) (qqq (qqt rfl h2r (evo rfl)) (qze (by kernel_rfl) (by kernel_rfl) ?_)))))))))))
  refine a_ff rfl ?_
  refine qja (ar (om rfl (qqa (qjh rfl rfl zz zz) (oa rfl (on ?_)))))
  exact ⟨(i + 1, M), (by first | exact ⟨hm.1, by omega, ins_end hm.2.2.2 hm.2.1 (by first | exact .inl (by omega) | exact .inr (by have h9 := perm_ne hm.1 h (i := j - 1) (j := j) (by omega) (by omega) (by omega); rw [hvj (by omega), hvj1 (by omega)] at *; omega))⟩ | (dsimp only; exact ⟨hm.1, by omega, ins_end hm.2.2.2 hm.2.1 (by first | exact .inl (by omega) | exact .inr (by have h9 := perm_ne hm.1 h (i := j - 1) (j := j) (by omega) (by omega) (by omega); rw [hvj (by omega), hvj1 (by omega)] at *; omega))⟩)), ⟨⟨rfl, rfl⟩, ⟨rfl, trivial⟩, ⟨rfl, trivial⟩, ⟨rfl, rfl⟩, ⟨rfl, rfl⟩⟩, (by first | exact (by have := hm.1.length_eq; omega) | (dsimp only; exact (by have := hm.1.length_eq; omega)))⟩
 have h1r := h1
 try simp only [nq, nr, nl] at h1
 refine qja ?_
 exact ⟨[], .tup [], [.row 3 1 _], [], [], trivial, rfl, rfl, ⟨⟨rfl, rfl⟩, trivial⟩, rfl, rfl, ⟨rfl, by rw [show M = srtS L from srt_end hm.1 h hm.2.2 (by have := hm.1.length_eq; omega)], rfl⟩⟩
theorem f_pdqOrd (L : List Int) (h : apt L) (hpos : ∀ v ∈ L, 1 ≤ v ∧ v ≤ 12) (m : Int) : Fn Tryz.prog 202 [.own 0 0, .p (.int .i64 (0)), .p (.int .i64 ((L.length : Nat))), .p (.int .i64 (m))] [.row 3 1 (L.map dI)] (fun rr ii nn => rr = .tup [] ∧ ii = [.row 3 1 ((srtS L).map dI)] ∧ nn = []) := by
 refine qjm Tryz.func202 rfl (nb rfl) fun w X g => ?_
 show AWp _ _ _ ⟨[(0, .own 0 0), (1, .p (.int .i64 (0))), (2, .p (.int .i64 ((L.length : Nat)))), (3, .p (.int .i64 (m)))], [(0, some (0, .row 3 1 (L.map dI)))]⟩
 have hl12 := apt_len h
 refine rs (oa rfl (on (rs (oa rfl (on (qqf (qqr (ι := Nat) (fun k => k = 0) (fun k r => r) (fun k r => (0, some (0, .row 3 1 (L.map dI))) :: r) (fun k => 0) (fun _ _ => rfl) (fun _ _ => rfl) 0 rfl ⟨⟨rfl, rfl⟩, trivial, ⟨rfl, trivial⟩, ⟨rfl, rfl⟩, ⟨rfl, rfl⟩⟩ ?_)))))))
 intro k hk
 refine qqf (rs (om rfl (om rfl (qqa (qzy rfl rfl zz zz) (oa rfl (on (qqe (rs (om rfl (qqa (j_le rfl rfl) (on (ac rfl (fun h1 => ?_) fun h1 => ?_))))))))))))
 ·
  have h1r := h1
  try simp only [nq, nr, nl] at h1
  refine rs (om rfl (om rfl (om rfl ?_)))
  refine qq3 (qqn (v := .tup []) (hp1 := [(0, some (0, .row 3 1 _))]) [(0, 0)] false [0] ent246 (f_insOrd L h hpos) ⟨.inl ⟨rfl, rfl⟩, .inl ⟨rfl, rfl⟩, .inl ⟨rfl, rfl⟩, trivial⟩ ⟨⟨rfl, rfl⟩, trivial⟩ rfl rfl (fun h => by cases h) rfl (List.all_eq_true.1 rfl) (.inl rfl) rfl rfl) ?_
  refine on (qqm ?_)
  exact ⟨[], .tup [], [.row 3 1 _], [], [], trivial, rfl, rfl, ⟨⟨rfl, rfl⟩, trivial⟩, rfl, rfl, ⟨rfl, rfl, rfl⟩⟩
 have h1r := h1
 try simp only [nq, nr, nl] at h1
 exact absurd (of_decide_eq_false h1r) (by omega)
theorem f_sortI (L : List Int) (h : apt L) (hpos : ∀ v ∈ L, 1 ≤ v ∧ v ≤ 12) : Fn Tryz.prog 153 [.own 0 0] [.row 3 1 (L.map dI)] (fun rr ii nn => rr = .tup [] ∧ ii = [.row 3 1 ((srtS L).map dI)] ∧ nn = []) := by
 refine qjm Tryz.func153 rfl (nb rfl) fun w X g => ?_
 show AWp _ _ _ ⟨[(0, .own 0 0)], [(0, some (0, .row 3 1 (L.map dI)))]⟩
 have hl12 := apt_len h
 have hb9 := f_bitsLen L.length hl12
 rw [← wrapU64 hl12] at hb9
 refine rs (om rfl (qqa (qq7 Tryz.underlying23 rfl rfl) (oa rfl (on (ar (om rfl (om rfl (om rfl (qqa (j_conv Tryz.underlying3 Tryz.underlying187 rfl) (op_callE (v := fun x => .p _) (hp1 := fun x => []) [] false ent168 hb9 ⟨.inl ⟨rfl, rfl⟩, trivial⟩ trivial rfl (fun _ => rfl) (fun _ => rfl) (.inl rfl) (fun _ => rfl) (fun _ => rfl) ?_))))))))))
 rintro z9 hz9
 try dsimp only at hz9
 dsimp only [List.cons_append, List.nil_append]
 refine qq3 (qqn (v := .tup []) (hp1 := [(0, some (0, .row 3 1 _))]) [(0, 0)] false [0] ent202 (f_pdqOrd L h hpos z9) ⟨.inl ⟨rfl, rfl⟩, .inl ⟨rfl, rfl⟩, .inl ⟨rfl, rfl⟩, .inl ⟨rfl, rfl⟩, trivial⟩ ⟨⟨rfl, rfl⟩, trivial⟩ rfl rfl (fun h => by cases h) rfl (List.all_eq_true.1 rfl) (.inl rfl) rfl rfl) ?_
 refine on ?_
 exact ⟨[], .tup [], [.row 3 1 _], [], [], trivial, rfl, rfl, ⟨⟨rfl, rfl⟩, trivial⟩, rfl, rfl, ⟨rfl, rfl, rfl⟩⟩
theorem f_bvZ (m : Md) (c x : Int) (hm : mOk m = true) (hc : 0 ≤ c ∧ c < m.1.length) (hx : 0 ≤ x ∧ x ≤ 3) : Fn Tryz.prog 114 [.agg [.sl (m.1.map dI), .sl (m.2.map dR)], .p (.int .i64 (c)), .p (.int .i64 (x))] [] (fun rr ii nn => rr = .p (.int .i64 (bvI m.1 c.toNat x)) ∧ ii = [] ∧ nn = []) := by
 obtain ⟨n, rfl⟩ := Int.eq_ofNat_of_zero_le hc.1
 exact f_bv m n x hm (by omega) hx
theorem f_enc1 (m : Md) (q : Rl) (hm : mOk m = true) (hq : rOk m.1.length q = true) (x : List Int) (o : List Con) (hx : cvL (szR m.1 q) x = true) (ho : o.length ≤ 1024) : Fn Tryz.prog 155 [.own 4 0, .ptr 0 0 0, .ptr 1 0 0, .ptr 2 0 0] [.box 123 [.p (.int .i64 q.1), .sl (q.2.1.map dI), .sl (q.2.2.1.map dI), .p (.int .i64 q.2.2.2.1), .sl (q.2.2.2.2.map dL)], .box 60 [.sl (m.1.map dI), .sl (m.2.map dR)], .box 30 [.own 3 0], .row 69 2 ((o).map dC), .row 3 1 ((x).map dI)] (fun rr ii nn => rr = .p (.bool (true)) ∧ ii = [.box 123 [.p (.int .i64 q.1), .sl (q.2.1.map dI), .sl (q.2.2.1.map dI), .p (.int .i64 q.2.2.2.1), .sl (q.2.2.2.2.map dL)], .box 60 [.sl (m.1.map dI), .sl (m.2.map dR)], .box 30 [.own 5 0], .gone, .row 3 1 ((x).map dI)] ∧ nn = [.row 69 2 (((o ++ tab1 m.1 q x)).map dC)]) := by
 refine qjm Tryz.func155 rfl (nb rfl) fun w X g => ?_
 show AWp _ _ _ ⟨[(0, .own 4 0), (1, .ptr 0 0 0), (2, .ptr 1 0 0), (3, .ptr 2 0 0)], [(0, some (0, .box 123 [.p (.int .i64 q.1), .sl (q.2.1.map dI), .sl (q.2.2.1.map dI), .p (.int .i64 q.2.2.2.1), .sl (q.2.2.2.2.map dL)])), (1, some (0, .box 60 [.sl (m.1.map dI), .sl (m.2.map dR)])), (2, some (0, .box 30 [.own 3 0])), (3, some (0, .row 69 2 ((o).map dC))), (4, some (0, .row 3 1 ((x).map dI)))]⟩
 have hrl := rl_len hq hm
 have hms := qzx hm
 have htu := tup_cv hx
 have hx3 := tup_3 hm hq htu
 refine rs (oa rfl (on (qqe (rs (qqa (qqk (ys := [.p _, .sl _, .sl _, .p _, .sl _]) qzd rfl rfl rfl (nb rfl)) (om rfl ?_))))))
 refine qq3 (qqn (v := .p _) (hp1 := []) [] true [4] ent156 (f_holds m.1.length q x hq hx3 (by omega)) ⟨.inl ⟨rfl, rfl⟩, .inr ⟨rfl, qzl rfl rfl, rfl⟩, trivial⟩ trivial rfl rfl (fun _ => rfl) rfl (fun _ h => by cases h) (.inr ⟨rfl, by first | exact pl_new1 (fun _ => rfl) | exact qz9 | (simp [plO, plV, plV.plL]; done)⟩) rfl rfl) ?_
 refine qqa (qzw rfl) (on (ac rfl (fun h1 => ?_) fun h1 => ?_))
 ·
  have h1r := h1
  try simp only [nq, nr, nl, notL_len] at h1
  refine rs (oa rfl (on (qjt 6 6 3 1 rfl fun v6 => ?_)))
  refine qqe (rs (qqa (qqi qjy rfl rfl) (qqa (qqc qq9 rfl rfl rfl) (qqa (qqg Tryz.underlying23 rfl) (om rfl (on (qqf (qqr (ι := Nat × Nat) (fun y => y.1 ≤ q.2.1.length) (fun y r => (18, .p (.int .i64 ((y.1 : Nat)))) :: (6, .own 6 y.2) :: r) (fun y r => (6, some (y.2, .row 3 1 ((notL m.1 q x y.1).map dI))) :: r) (fun y => q.2.1.length - y.1) (fun _ _ => rfl) (fun _ _ => rfl) (0, v6) (by first | exact (Nat.zero_le _) | (dsimp only; exact (Nat.zero_le _))) ⟨⟨rfl, rfl⟩, ⟨rfl, rfl, trivial⟩, ⟨rfl, trivial⟩, ⟨rfl, rfl⟩, ⟨rfl, rfl⟩⟩ ?_))))))))
  rintro ⟨k, v⟩ hk; dsimp only at hk ⊢
  refine rs (qqa (qzb rfl rfl) (on (qqe (ac rfl (fun h2 => ?_) fun h2 => ?_))))
  ·
   have h2r := h2
   try simp only [nq, nr, nl, notL_len] at h2
   refine qqj (qqe (qqf (rs (om rfl (qqa (qqy qqz rfl rfl rfl (qqh zat2) rfl) (qqa (qqp qq2 rfl (qqh zat2) rfl) (oa rfl (oa rfl (on ?_)))))))))
   have hv := vi_at hq (i := k) zat2
   have hxk := hx3.2 k zat2
   have hbv := bv_rng hm hv.1 (htu.2 k zat2)
   unfold viN at hbv
   refine qjz qzj (by kernel_rfl) (by kernel_rfl) fun vf => ?_
   refine qqq (qql (evo rfl)) (qqq (qqk (ys := [.sl _, .sl _]) qjw rfl rfl rfl (nb rfl)) (qqq (qql (evo rfl)) (qqq (qql (evo rfl)) (qqq (qql (evo rfl)) (qqq (qqo qqz rfl rfl rfl rfl zat2) (qqq (qjd qq2 rfl rfl (qqh zat2) rfl) ?_))))))
   refine d_v0' (qqn (v := .p _) (hp1 := []) [] false [] ent114 (f_bvZ m (q.2.1.getD k default) (x.getD k default) hm (by omega) (by omega)) ⟨.inl ⟨rfl, rfl⟩, .inl ⟨rfl, rfl⟩, .inl ⟨rfl, rfl⟩, trivial⟩ trivial rfl rfl (fun h => by cases h) rfl (fun _ h => by cases h) (.inl rfl) rfl rfl) ?_
   refine qqq (j_neg rfl zat2 zat2) (d_n' (fun ver => qqw (parts := [(0, .tmp 31)]) (es := [[_]]) qqz qz7 rfl rfl (by decide) (by decide) rfl rfl (by simp) rfl) ?_)
   refine d_n' (fun ver => qq6 qqz qz7 rfl rfl rfl rfl rfl rfl (by rw [qq0]; first | omega | (simp only [nr, nl, notL_len]; omega)) zat2) ?_
   refine qqq (qzp (evo rfl)) (qze (by kernel_rfl) (by kernel_rfl) ?_)
   refine ar (qqa (qjh rfl rfl zat2 zat2) (om rfl (on ?_)))
   exact ⟨(k + 1, (vf 6)), (by first | exact zat2 | (dsimp only; exact zat2)), ⟨⟨rfl, rfl⟩, ⟨rfl, rfl, trivial⟩, ⟨qza (by dsimp only; rw [notL_next, List.map_append]; rfl), trivial⟩, ⟨rfl, rfl⟩, ⟨rfl, rfl⟩⟩, (by first | exact zat2 | (dsimp only; exact zat2))⟩
  have h2r := h2
  try simp only [nq, nr, nl, notL_len] at h2
  refine qja (qqe ?_)
  obtain rfl : k = q.2.1.length := zat2
  refine qj4 6 ⟨⟨_, _, rfl⟩, ⟨_, _, rfl⟩, ⟨_, _, rfl⟩, ⟨_, _, _, rfl⟩, ⟨_, _, _, rfl⟩, trivial⟩ rfl rfl rfl ?_
  refine ar (om rfl ?_)
  refine qq3 (qqn (v := .tup [.agg [.sl _, .p _], .p _]) (hp1 := []) [] false [] ent42 (f_clauseImplP (notL m.1 q x q.2.1.length) (notL_apt hm hq htu (Nat.le_refl _))) ⟨.inl ⟨rfl, rfl⟩, trivial⟩ trivial rfl rfl (fun h => by cases h) rfl (fun _ h => by cases h) (.inl rfl) rfl rfl) ?_
  refine om rfl (qqa (qjg rfl rfl) (qqa (qjg rfl rfl) (qq5 (fun ver => qjv qz5 rfl) fun v9x1 => ?_)))
  refine qjo (qqs qzn rfl rfl rfl rfl rfl rfl) ?_
  refine oa rfl (on (a_mvB (i := 3) 2 0 1003 (by decide) (by decide) rfl rfl rfl rfl fun v1003x2 => ?_))
  try dsimp only [List.set]
  refine ar (qqa (qqc leaf30 rfl rfl rfl) (qqa (qqk (ys := [.sl _, .p _]) qzn rfl rfl rfl (nb rfl)) (qq5 (fun ver => qqw (parts := [(0, .tmp 41)]) (es := [[_, _]]) slt30 qz5 rfl rfl (by decide) (by decide) rfl rfl (by simp) rfl) fun v42x3 => ?_)))
  refine qq5 (fun ver => qq6 slt30 qz5 rfl rfl rfl rfl rfl rfl (by rw [qq0]; first | omega | (simp only [nr, nl, notL_len]; omega)) zat2) fun v1003x4 => ?_
  refine qjo (qje leaf30 rfl rfl (nb rfl) (evo rfl) rfl) ?_
  refine on (rs (oa rfl (on (qqm ?_))))
  exact ⟨[.p _], .p _, [.box 123 [.p _, .sl _, .sl _, .p _, .sl _], .box 60 [.sl _, .sl _], .box 30 [.own 5 0], .gone, .row 3 1 _], [.row 69 2 _], [(1003, v1003x4)], ⟨rfl, trivial⟩, rfl, rfl, ⟨⟨rfl, rfl⟩, ⟨rfl, rfl⟩, ⟨rfl, rfl⟩, ⟨rfl, rfl⟩, ⟨rfl, rfl⟩, ⟨rfl, rfl⟩, trivial⟩, rfl, rfl, ⟨rfl, rfl, by rw [tab1_n (by first | assumption | simp_all), List.map_append]; rfl⟩⟩
 have h1r := h1
 try simp only [nq, nr, nl, notL_len] at h1
 refine qqj (rs (oa rfl (on (a_mvB (i := 3) 2 0 1003 (by decide) (by decide) rfl rfl rfl rfl fun v1003x5 => ?_))))
 try dsimp only [List.set]
 refine qqm ?_
 exact ⟨[.p _], .p _, [.box 123 [.p _, .sl _, .sl _, .p _, .sl _], .box 60 [.sl _, .sl _], .box 30 [.own 5 0], .gone, .row 3 1 _], [.row 69 2 _], [(1003, v1003x5)], ⟨rfl, trivial⟩, rfl, rfl, ⟨⟨rfl, rfl⟩, ⟨rfl, rfl⟩, ⟨rfl, rfl⟩, ⟨rfl, rfl⟩, ⟨rfl, rfl⟩, ⟨rfl, rfl⟩, trivial⟩, rfl, rfl, ⟨rfl, rfl, by rw [tab1_y (by first | assumption | simp_all), List.append_nil]⟩⟩
theorem f_eachE (F : Nat) (m : Md) (q : Rl) (hm : mOk m = true) (hq : rOk m.1.length q = true) (hE : Ent' Tryz.prog F) (hF : ∀ (x : List Int) (o : List Con), cvL (szR m.1 q) x = true → o.length ≤ 1024 → Fn Tryz.prog F [.own 4 0, .ptr 0 0 0, .ptr 1 0 0, .ptr 2 0 0] [.box 123 [.p (.int .i64 q.1), .sl (q.2.1.map dI), .sl (q.2.2.1.map dI), .p (.int .i64 q.2.2.2.1), .sl (q.2.2.2.2.map dL)], .box 60 [.sl (m.1.map dI), .sl (m.2.map dR)], .box 30 [.own 3 0], .row 69 2 ((o).map dC), .row 3 1 ((x).map dI)] (fun r i n => r = .p (.bool true) ∧ i = [.box 123 [.p (.int .i64 q.1), .sl (q.2.1.map dI), .sl (q.2.2.1.map dI), .p (.int .i64 q.2.2.2.1), .sl (q.2.2.2.2.map dL)], .box 60 [.sl (m.1.map dI), .sl (m.2.map dR)], .box 30 [.own 5 0], .gone, .row 3 1 ((x).map dI)] ∧ n = [.row 69 2 (((o ++ tab1 m.1 q x)).map dC)])) : Fn Tryz.prog 154 [.sl ((szR m.1 q).map dI), .own 4 0, .fn F [.ptr 0 0 0, .ptr 1 0 0, .ptr 2 0 0]] [.box 123 [.p (.int .i64 q.1), .sl (q.2.1.map dI), .sl (q.2.2.1.map dI), .p (.int .i64 q.2.2.2.1), .sl (q.2.2.2.2.map dL)], .box 60 [.sl (m.1.map dI), .sl (m.2.map dR)], .box 30 [.own 3 0], .row 69 2 ((([] : List Con)).map dC), .row 3 1 (List.replicate (szR m.1 q).length [.p (.int .i64 0)])] (fun rr ii nn => rr = .tup [] ∧ ii = [.box 123 [.p (.int .i64 q.1), .sl (q.2.1.map dI), .sl (q.2.2.1.map dI), .p (.int .i64 q.2.2.2.1), .sl (q.2.2.2.2.map dL)], .box 60 [.sl (m.1.map dI), .sl (m.2.map dR)], .box 30 [.own 5 0], .gone, .row 3 1 (((List.replicate (szR m.1 q).length (0 : Int))).map dI)] ∧ nn = [.row 69 2 (((tabL m.1 q)).map dC)]) := by
 refine qjm Tryz.func154 rfl (nb rfl) fun w X g => ?_
 show AWp _ _ _ ⟨[(0, .sl ((szR m.1 q).map dI)), (1, .own 4 0), (2, .fn F [.ptr 0 0 0, .ptr 1 0 0, .ptr 2 0 0])], [(0, some (0, .box 123 [.p (.int .i64 q.1), .sl (q.2.1.map dI), .sl (q.2.2.1.map dI), .p (.int .i64 q.2.2.2.1), .sl (q.2.2.2.2.map dL)])), (1, some (0, .box 60 [.sl (m.1.map dI), .sl (m.2.map dR)])), (2, some (0, .box 30 [.own 3 0])), (3, some (0, .row 69 2 ((([] : List Con)).map dC))), (4, some (0, .row 3 1 (List.replicate (szR m.1 q).length [.p (.int .i64 0)])))]⟩
 have hrl := rl_len hq hm
 have hszl := qj1 (s := m.1) (r := q)
 refine a_row 4 (es' := (List.replicate (szR m.1 q).length (0 : Int)).map dI) rfl (by rw [List.map_replicate]; rfl) ?_
 refine a_mvB (i := 3) 2 0 1003 (by decide) (by decide) rfl rfl rfl rfl fun v1003x1 => ?_
 try dsimp only [List.set]
 refine rs (om rfl ?_)
 refine qj9 (fun ver => qj8 (v := .own 9 ver) (hp1 := [(9, some (ver, .row 3 1 _))]) [] true [4] ent108 (f_cloneI2 (List.replicate (szR m.1 q).length (0 : Int)) (by rw [List.length_replicate]; omega)) ⟨.inr ⟨rfl, qzl rfl rfl, rfl⟩, trivial⟩ trivial rfl rfl rfl (fun _ => rfl) rfl (List.all_eq_true.1 rfl) (.inr ⟨rfl, by first | exact pl_new1 (fun _ => rfl) | exact qz9 | (simp [plO, plV, plV.plL]; done)⟩) rfl rfl) fun v9x2 => ?_
 refine oa rfl (on (qqf (qqr (ι := List Int × List Con × Nat) (fun x => tabI m.1 q x.1 x.2.1) (fun x r => r) (fun x r => (0, some (0, .box 123 [.p (.int .i64 q.1), .sl (q.2.1.map dI), .sl (q.2.2.1.map dI), .p (.int .i64 q.2.2.2.1), .sl (q.2.2.2.2.map dL)])) :: (1, some (0, .box 60 [.sl (m.1.map dI), .sl (m.2.map dR)])) :: (2, some (0, .box 30 [.own 1003 x.2.2])) :: (1003, some (x.2.2, .row 69 2 ((x.2.1).map dC))) :: (9, some (v9x2, .row 3 1 ((x.1).map dI))) :: r) (fun x => prS (szR m.1 q) - vlS (szR m.1 q) x.1) (fun _ _ => rfl) (fun _ _ => rfl) ((List.replicate (szR m.1 q).length (0 : Int)), [], v1003x1) (by first | exact (tab_start hm hq) | (dsimp only; exact (tab_start hm hq))) ⟨⟨rfl, rfl⟩, trivial, ⟨rfl, rfl, rfl, rfl, rfl, trivial⟩, ⟨rfl, rfl⟩, ⟨rfl, rfl⟩⟩ ?_)))
 rintro ⟨c, o, vo⟩ hk; dsimp only at hk ⊢
 refine qqe (qqe ?_)
 have hcv := cv_at hk.1
 have hrn := tab_next hk
 refine ar (om rfl (om rfl ?_))
 refine qj9 (fun ver => j_callF1 (v := .p _) (hp1 := [(0, some (0, .box 123 [.p _, .sl _, .sl _, .p _, .sl _])), (1, some (0, .box 60 [.sl _, .sl _])), (2, some (0, .box 30 [.own 12 ver])), (1003, some (vo, .gone)), (9, some (v9x2, .row 3 1 _)), (12, some (ver, .row 69 2 _))]) [(0, 0), (1, 0), (2, 0), (1003, vo), (9, v9x2)] false [9, 0, 1, 2, 1003] rfl hE (hF c o hk.1 (tab_len hm hq hk)) ⟨.inl ⟨rfl, rfl⟩, .inl ⟨rfl, rfl⟩, .inl ⟨rfl, rfl⟩, .inl ⟨rfl, rfl⟩, trivial⟩ ⟨⟨rfl, rfl⟩, ⟨rfl, rfl⟩, ⟨rfl, rfl⟩, ⟨rfl, rfl⟩, ⟨rfl, rfl⟩, trivial⟩ rfl rfl rfl (fun h => by cases h) rfl (List.all_eq_true.1 rfl) (.inl rfl) rfl rfl) fun v12x3 => ?_
 refine on (ac rfl (fun h1 => ?_) fun h1 => ?_)
 ·
  have h1r := h1
  try simp only [nq, nr, nl] at h1
  refine qqj (qqf (rs (om rfl (qqa (qq7 Tryz.underlying23 rfl rfl) (qqa (qzy rfl rfl zz zz) (oa rfl (on (a_mvB (i := 12) 2 0 1003 (by decide) (by decide) rfl rfl rfl rfl fun v1003x4 => ?_))))))))
  try dsimp only [List.set]
  refine qqe (qqf (qqr (ι := Nat × List Int) (fun x => x.1 ≤ c.length ∧ x.2.length = c.length ∧ (∀ i, i < x.1 → 0 ≤ x.2.getD i default ∧ x.2.getD i default ≤ (szR m.1 q).getD i default) ∧ nxt (szR m.1 q) x.2 x.1 = (nxt (szR m.1 q) c c.length) ∧ ∀ i, i < c.length → (szR m.1 q).getD i default ≤ 3) (fun x r => (7, .p (.int .i64 ((x.1 : Int) - 1))) :: r) (fun x r => (9, some (v9x2, .row 3 1 ((x.2).map dI))) :: r) (fun x => x.1) (fun _ _ => rfl) (fun _ _ => rfl) (c.length, c) (by first | exact ⟨Nat.le_refl _, rfl, (fun i hi => hcv.2 i hi), rfl, (fun i hi => sz_le3 hm hq (by omega))⟩ | (dsimp only; exact ⟨Nat.le_refl _, rfl, (fun i hi => hcv.2 i hi), rfl, (fun i hi => sz_le3 hm hq (by omega))⟩)) ⟨⟨rfl, rfl⟩, ⟨qzg (by omega), trivial⟩, ⟨rfl, trivial⟩, ⟨rfl, rfl⟩, ⟨rfl, rfl⟩⟩ ?_))
  rintro ⟨k, e⟩ hk2; dsimp only at hk2 ⊢
  refine qqe (qqe (qjz qzj (by kernel_rfl) (by kernel_rfl) fun vf => ?_))
  refine qqq (qql (evo rfl)) (qqq (j_ge rfl rfl) (qqq (qql (evo rfl)) (d_split' 18 rfl (fun h2 => ?_) (fun h2 => ?_))))
  ·
   have h2r := h2
   try simp only [nq, nr, nl] at h2
   refine qqq (qqd rfl rfl h2r (qql (evo rfl))) (qqq (qqd rfl rfl h2r (qql (evo rfl))) (qqq (qqd rfl rfl h2r (qqo (n := (k - 1)) qqz rfl rfl rfl (by omega) zz)) ?_))
   refine qqq (qqd rfl rfl h2r (qjd qq2 rfl rfl (qqh zz) rfl)) (qqq (qqd rfl rfl h2r (qql (evo rfl))) (qqq (qqd rfl rfl h2r (qql (evo rfl))) (qqq (qqd rfl rfl h2r (qqy (n := (k - 1)) qqz rfl rfl (by omega) (qqh zz) rfl)) ?_)))
   refine qqq (qqd rfl rfl h2r (qqp qq2 rfl (qqh zz) rfl)) (qqq (qqd rfl rfl h2r (qz4 rfl rfl)) (qqq (qqu rfl h2r (evo rfl)) (qze (by kernel_rfl) (by kernel_rfl) ?_)))
   refine ac rfl (fun h3 => ?_) fun h3 => ?_
   ·
    have h3r := h3
    try simp only [nq, nr, nl] at h3
    refine qqj (qqf (rs (om rfl (om rfl (qqa (qqo (n := (k - 1)) qqz rfl rfl rfl (by omega) zz) (qjo (qji qq2 rfl rfl zz (evo rfl) rfl rfl) ?_))))))
    refine on (ar (om rfl (qqa (qzy rfl rfl zz zz) (oa rfl (on ?_)))))
    exact ⟨(k - 1, e.set (k - 1) 0), (by first | exact ⟨by omega, by rw [List.length_set]; exact hk2.2.1, fun i hi => by rw [getD_setne (by omega)]; exact hk2.2.2.1 i (by omega), by rw [← hk2.2.2.2.1, nxt_at (k := k) (by omega), if_neg (by omega)], hk2.2.2.2.2⟩ | (dsimp only; exact ⟨by omega, by rw [List.length_set]; exact hk2.2.1, fun i hi => by rw [getD_setne (by omega)]; exact hk2.2.2.1 i (by omega), by rw [← hk2.2.2.2.1, nxt_at (k := k) (by omega), if_neg (by omega)], hk2.2.2.2.2⟩)), ⟨⟨rfl, rfl⟩, ⟨qzg (by omega), trivial⟩, ⟨qza (List.map_set ..).symm, trivial⟩, ⟨rfl, rfl⟩, ⟨rfl, rfl⟩⟩, (by first | exact (by omega) | (dsimp only; exact (by omega)))⟩
   have h3r := h3
   try simp only [nq, nr, nl] at h3
   refine qja (qqe (rs (om rfl (qqa (qzb rfl rfl) (on (ac rfl (fun h4 => ?_) fun h4 => ?_))))))
   ·
    have h4r := h4
    try simp only [nq, nr, nl] at h4
    refine qqm ?_
    exact ⟨[], .tup [], [.box 123 [.p _, .sl _, .sl _, .p _, .sl _], .box 60 [.sl _, .sl _], .box 30 [.own 5 0], .gone, .row 3 1 _], [.row 69 2 _], [(1003, v1003x4)], trivial, rfl, rfl, ⟨⟨rfl, rfl⟩, ⟨rfl, rfl⟩, ⟨rfl, rfl⟩, ⟨rfl, rfl⟩, ⟨rfl, rfl⟩, ⟨rfl, rfl⟩, trivial⟩, rfl, rfl, ⟨rfl, rfl, by have hq9 : (nxt (szR m.1 q) c c.length) = (e, false) := (by rw [← hk2.2.2.2.1, show k = 0 by omega]; rfl); rw [hq9] at hrn; rw [← show o ++ tab1 m.1 q c = tabL m.1 q from hrn.2.1]⟩⟩
   have h4r := h4
   try simp only [nq, nr, nl] at h4
   refine qqj ?_
   have hek := hk2.2.2.1 (k - 1) (by omega)
   have hmk := (hk2.2.2.2.2 (k - 1) (by omega))
   have hq9 : (nxt (szR m.1 q) c c.length) = (e.set (k - 1) (e.getD (k - 1) default + 1), true) := by rw [← hk2.2.2.2.1, nxt_at (by omega), if_pos (by omega)]
   rw [hq9] at hrn
   refine ar (om rfl (om rfl (qqa (qqo (n := (k - 1)) qqz rfl rfl rfl (by omega) zz) (qqa (qjd qq2 rfl rfl (qqh zz) rfl) (qqa (qjh rfl rfl zz zz) (qqa (qqo (n := (k - 1)) qqz rfl rfl rfl (by omega) zz) (qjo (qji qq2 rfl rfl zz (evo rfl) rfl rfl) ?_)))))))
   refine on ?_
   exact ⟨((nxt (szR m.1 q) c c.length).1, o ++ tab1 m.1 q c, v1003x4), (by first | exact (by rw [hq9]; exact hrn.2.1) | (dsimp only; exact (by rw [hq9]; exact hrn.2.1))), ⟨⟨rfl, rfl⟩, trivial, ⟨rfl, rfl, rfl, rfl, qza (by rw [hq9]; exact (List.map_set ..).symm), trivial⟩, ⟨rfl, rfl⟩, ⟨rfl, rfl⟩⟩, (by first | exact (by rw [hq9]; exact hrn.2.2 rfl) | (dsimp only; exact (by rw [hq9]; exact hrn.2.2 rfl)))⟩
  have h2r := h2
  try simp only [nq, nr, nl] at h2
  refine qqq (qqb rfl rfl h2r) (qqq (qqb rfl rfl h2r) (qqq (qqb rfl rfl h2r) (qqq (qqb rfl rfl h2r) (qqq (qqb rfl rfl h2r) (qqq (qqb rfl rfl h2r) (qqq (qqb rfl rfl h2r) (qqq (qqb rfl rfl h2r) (qqq (qqb rfl rfl h2r) (qqq (qqt rfl h2r (evo rfl)) (qze (by kernel_rfl) (by kernel_rfl) ?_))))))))))
  refine a_ff rfl ?_
  refine qja (qqe (rs (om rfl (qqa (qzb rfl rfl) (on (ac rfl (fun h5 => ?_) fun h5 => ?_))))))
  ·
   have h5r := h5
   try simp only [nq, nr, nl] at h5
   refine qqm ?_
   exact ⟨[], .tup [], [.box 123 [.p _, .sl _, .sl _, .p _, .sl _], .box 60 [.sl _, .sl _], .box 30 [.own 5 0], .gone, .row 3 1 _], [.row 69 2 _], [(1003, v1003x4)], trivial, rfl, rfl, ⟨⟨rfl, rfl⟩, ⟨rfl, rfl⟩, ⟨rfl, rfl⟩, ⟨rfl, rfl⟩, ⟨rfl, rfl⟩, ⟨rfl, rfl⟩, trivial⟩, rfl, rfl, ⟨rfl, rfl, by have hq9 : (nxt (szR m.1 q) c c.length) = (e, false) := (by rw [← hk2.2.2.2.1, show k = 0 by omega]; rfl); rw [hq9] at hrn; rw [← show o ++ tab1 m.1 q c = tabL m.1 q from hrn.2.1]⟩⟩
  have h5r := h5
  try simp only [nq, nr, nl] at h5
  refine qqj ?_
  have hek := hk2.2.2.1 (k - 1) (by omega)
  have hmk := (hk2.2.2.2.2 (k - 1) (by omega))
  have hq9 : (nxt (szR m.1 q) c c.length) = (e.set (k - 1) (e.getD (k - 1) default + 1), true) := by rw [← hk2.2.2.2.1, nxt_at (by omega), if_pos (by omega)]
  rw [hq9] at hrn
  refine ar (om rfl (om rfl (qqa (qqo (n := (k - 1)) qqz rfl rfl rfl (by omega) zz) (qqa (qjd qq2 rfl rfl (qqh zz) rfl) (qqa (qjh rfl rfl zz zz) (qqa (qqo (n := (k - 1)) qqz rfl rfl rfl (by omega) zz) (qjo (qji qq2 rfl rfl zz (evo rfl) rfl rfl) ?_)))))))
  refine on ?_
  exact ⟨((nxt (szR m.1 q) c c.length).1, o ++ tab1 m.1 q c, v1003x4), (by first | exact (by rw [hq9]; exact hrn.2.1) | (dsimp only; exact (by rw [hq9]; exact hrn.2.1))), ⟨⟨rfl, rfl⟩, trivial, ⟨rfl, rfl, rfl, rfl, qza (by rw [hq9]; exact (List.map_set ..).symm), trivial⟩, ⟨rfl, rfl⟩, ⟨rfl, rfl⟩⟩, (by first | exact (by rw [hq9]; exact hrn.2.2 rfl) | (dsimp only; exact (by rw [hq9]; exact hrn.2.2 rfl)))⟩
 have h1r := h1
 try simp only [nq, nr, nl] at h1
 exact absurd h1r (by simp)
theorem f_encR (m : Md) (q : Rl) (hm : mOk m = true) (hq : rOk m.1.length q = true) : Fn Tryz.prog 93 [.agg [.sl (m.1.map dI), .sl (m.2.map dR)], .agg [.p (.int .i64 q.1), .sl (q.2.1.map dI), .sl (q.2.2.1.map dI), .p (.int .i64 q.2.2.2.1), .sl (q.2.2.2.2.map dL)]] [] (fun rr ii nn => rr = .sl ((encR m.1 q).map dC) ∧ ii = [] ∧ nn = []) := by
 refine qjm Tryz.func93 rfl (nb rfl) fun w X g => ?_
 show AWp _ _ _ ⟨[(0, .agg [.sl (m.1.map dI), .sl (m.2.map dR)]), (1, .agg [.p (.int .i64 q.1), .sl (q.2.1.map dI), .sl (q.2.2.1.map dI), .p (.int .i64 q.2.2.2.1), .sl (q.2.2.2.2.map dL)])], []⟩
 have hrl := rl_len hq hm
 have hms := qzx hm
 have hkd := rOk_kind hq
 have hszl := qj1 (s := m.1) (r := q)
 refine rs (qq5 (fun ver => qj3 rfl) fun v2x1 => ?_)
 refine qq5 (fun ver => qj3 rfl) fun v3x2 => ?_
 refine oa rfl (on (rs (qq5 (fun ver => qjv elt30 rfl) fun v5x3 => ?_)))
 refine on (qj2 0 1005 69 2 (by decide) (id := 5) rfl rfl fun v1005x4 => ?_)
 refine qqe (rs (qqa (qqi qzc rfl rfl) (qqa (qqc qq2 rfl rfl rfl) (on (qqf (rs (qqa (qz4 rfl rfl) (oa rfl (on (ac rfl (fun h1 => ?_) fun h1 => ?_))))))))))
 ·
  have h1r := h1
  try simp only [nq, nr, nl, qj0, qj1, qjc, qjx] at h1
  refine rs (oa rfl (on (qjt 6 6 135 2 rfl fun v6 => ?_)))
  refine qqe (qqe ?_)
  have hln := rOk_lin hq (by omega)
  refine ar (qqa (qqi qjy rfl rfl) (qqa (qqc qq9 rfl rfl rfl) (qqa (qqg Tryz.underlying23 rfl) (om rfl (on (qqf (qqr (ι := Nat × Nat) (fun x => x.1 ≤ q.2.1.length) (fun x r => (26, .p (.int .i64 ((x.1 : Nat)))) :: (6, .own 6 x.2) :: r) (fun x r => (6, some (x.2, .row 135 2 ((linT m.1 q x.1).map dT))) :: r) (fun x => q.2.1.length - x.1) (fun _ _ => rfl) (fun _ _ => rfl) (0, v6) (by first | exact (Nat.zero_le _) | (dsimp only; exact (Nat.zero_le _))) ⟨⟨rfl, rfl⟩, ⟨rfl, rfl, trivial⟩, ⟨rfl, trivial⟩, ⟨rfl, rfl⟩, ⟨rfl, rfl⟩⟩ ?_)))))))
  rintro ⟨i, v⟩ hi; dsimp only at hi ⊢
  refine rs (qqa (qzb rfl rfl) (on (qqe (ac rfl (fun h2 => ?_) fun h2 => ?_))))
  ·
   have h2r := h2
   try simp only [nq, nr, nl, qj0, qj1, qjc, qjx] at h2
   refine qqj (qqe (qqf (qqe ?_)))
   have hv := vi_at hq (i := i) zat1
   have hsz := szN_eq hm hv.1
   have hs3 := hms.2 _ hv.1
   have hlf := (lin_fit hm hq (by omega) (n := i) zat1).1
   unfold viN at hv hsz hs3
   refine ar (om rfl (qqa (qqy qqz rfl rfl rfl (qqh zat1) rfl) (qqa (qqp qq2 rfl (qqh zat1) rfl) (oa rfl (oa rfl (on (rs (qqa (qqi qjs rfl rfl) (qqa (qqc qq9 rfl rfl rfl) (om rfl (qqa (qqy (n := (q.2.1.getD i default).toNat) qqz rfl rfl (by omega) (qqh zat1) rfl) (qqa (qqp qq2 rfl (qqh zat1) rfl) (qqa (qjh rfl rfl zat1 zat1) ?_)))))))))))))
   refine om rfl (on (qqf (qqr (ι := Nat × Nat) (fun x => x.1 ≤ szN m.1 (viN q i)) (fun x r => (37, .p (.int .i64 ((x.1 : Nat)))) :: (6, .own 6 x.2) :: r) (fun x r => (6, some (x.2, .row 135 2 ((linT m.1 q i ++ linI m.1 q i x.1).map dT))) :: r) (fun x => szN m.1 (viN q i) - x.1) (fun _ _ => rfl) (fun _ _ => rfl) (0, v) (by first | exact (Nat.zero_le _) | (dsimp only; exact (Nat.zero_le _))) ⟨⟨rfl, rfl⟩, ⟨rfl, rfl, trivial⟩, ⟨qza (by rw [show linI m.1 q i 0 = [] from rfl, List.append_nil]), trivial⟩, ⟨rfl, rfl⟩, ⟨rfl, rfl⟩⟩ ?_)))
   rintro ⟨j, w⟩ hj; dsimp only at hj ⊢; unfold viN at hj
   refine rs (qqa (qzb rfl rfl) (on (qqe (ac rfl (fun h3 => ?_) fun h3 => ?_))))
   ·
    have h3r := h3
    try simp only [nq, nr, nl, qj0, qj1, qjc, qjx] at h3
    refine qqj (qqe (qqf (qqe ?_)))
    have hmr := mulR39 (hln.2.2 i zat1) (show (0 : Int) ≤ (j : Int) ∧ (j : Int) ≤ 3 from zat1)
    refine ar (om rfl (oa rfl (on (qjz qzj (by kernel_rfl) (by kernel_rfl) fun vf => ?_))))
    refine qqq (qql (evo rfl)) (qqq (qqi qzk rfl rfl) (qqq (qqc qq9 rfl rfl rfl) (qqq (qql (evo rfl)) (qqq (qqy qqz rfl rfl rfl (qqh zat1) rfl) (qqq (qqp qq2 rfl (qqh zat1) rfl) (qqq (qql (evo rfl)) (qqq (j_mul rfl rfl zat1 zat1) (qqq (qqk (ys := [.sl _, .sl _]) qjw rfl rfl rfl (nb rfl)) (qqq (qql (evo rfl)) (qqq (qql (evo rfl)) ?_))))))))))
    refine d_v0' (qqn (v := .p _) (hp1 := []) [] false [] ent114 (f_bvZ m (q.2.1.getD i default) (j : Nat) hm (by omega) (by omega)) ⟨.inl ⟨rfl, rfl⟩, .inl ⟨rfl, rfl⟩, .inl ⟨rfl, rfl⟩, trivial⟩ trivial rfl rfl (fun h => by cases h) rfl (fun _ h => by cases h) (.inl rfl) rfl rfl) ?_
    refine qqq (qzu (parts := [(0, .tmp 47), (1, .tmp 51)]) str135 qz3 rfl rfl) (d_n' (fun ver => qqw (parts := [(0, .tmp 52)]) (es := [[_, _]]) slt67 qz3 rfl rfl (by decide) (by decide) rfl rfl (by simp) rfl) ?_)
    refine d_n' (fun ver => qq6 slt67 qz3 rfl rfl rfl rfl rfl rfl (by rw [qq0]; first | omega | (simp only [nr, nl, qj0, qj1, qjc, qjx]; omega)) zat1) ?_
    refine qqq (qzp (evo rfl)) (qze (by kernel_rfl) (by kernel_rfl) ?_)
    refine ar (qqa (qjh rfl rfl zat1 zat1) (om rfl (on ?_)))
    exact ⟨(j + 1, (vf 6)), (by first | exact (by unfold viN; first | omega | (simp only [nr, nl, qj0, qj1, qjc, qjx]; omega)) | (dsimp only; exact (by unfold viN; first | omega | (simp only [nr, nl, qj0, qj1, qjc, qjx]; omega)))), ⟨⟨rfl, rfl⟩, ⟨rfl, rfl, trivial⟩, ⟨qza (by dsimp only; rw [linI_next, ← List.append_assoc, List.map_append (l₁ := linT m.1 q i ++ linI m.1 q i j)]; rfl), trivial⟩, ⟨rfl, rfl⟩, ⟨rfl, rfl⟩⟩, (by first | exact (by unfold viN; first | omega | (simp only [nr, nl, qj0, qj1, qjc, qjx]; omega)) | (dsimp only; exact (by unfold viN; first | omega | (simp only [nr, nl, qj0, qj1, qjc, qjx]; omega))))⟩
   have h3r := h3
   try simp only [nq, nr, nl, qj0, qj1, qjc, qjx] at h3
   refine qja (ar (qqa (qjh rfl rfl zat1 zat1) (om rfl (on ?_))))
   exact ⟨(i + 1, w), (by first | exact zat1 | (dsimp only; exact zat1)), ⟨⟨rfl, rfl⟩, ⟨rfl, rfl, trivial⟩, ⟨qza (by dsimp only; rw [linT_next, show szN m.1 (viN q i) = j by unfold viN; first | omega | (simp only [nr, nl, qj0, qj1, qjc, qjx]; omega)]), trivial⟩, ⟨rfl, rfl⟩, ⟨rfl, rfl⟩⟩, (by first | exact zat1 | (dsimp only; exact zat1))⟩
  have h2r := h2
  try simp only [nq, nr, nl, qj0, qj1, qjc, qjx] at h2
  refine qja (qqe ?_)
  obtain rfl : i = q.2.1.length := zat1
  have hlf := lin_fit hm hq (by omega) (n := q.2.1.length) (Nat.le_refl _)
  have hfit := lin_fitT hm hq (by omega)
  refine a_freeze' 6 (noA _ _ _ _ _) rfl rfl ?_
  refine ar (om rfl (qqa (qqi fld123f3 rfl rfl) (qqa (qqc qq2 rfl rfl rfl) ?_)))
  refine qq3 (qqn (v := .tup [.agg [.sl _, .p _], .p _]) (hp1 := []) [] false [] ent152 (f_normal (linT m.1 q q.2.1.length) q.2.2.2.1 hfit (by omega)) ⟨.inl ⟨rfl, rfl⟩, .inl ⟨rfl, rfl⟩, trivial⟩ trivial rfl rfl (fun h => by cases h) rfl (fun _ h => by cases h) (.inl rfl) rfl rfl) ?_
  refine om rfl (qqa (qjg rfl rfl) (qqa (qjg rfl rfl) (qq5 (fun ver => qjv qz5 rfl) fun v10x5 => ?_)))
  refine qjo (qqs qzn rfl rfl rfl rfl rfl rfl) ?_
  refine oa rfl (on (rs (qqa (qqk (ys := [.sl _, .p _]) qzn rfl rfl rfl (nb rfl)) (qq5 (fun ver => qqw (parts := [(0, .tmp 64)]) (es := [[_, _]]) slt30 qz5 rfl rfl (by decide) (by decide) rfl rfl (by simp) rfl) fun v65x6 => ?_))))
  refine oa rfl (on (a_freeze' 4 (noA _ _ _ _ _) rfl rfl ?_))
  refine qqm ?_
  exact fin_sl rfl ⟨by rw [encR, if_pos (by omega)]; rfl, rfl, rfl⟩
 have h1r := h1
 try simp only [nq, nr, nl, qj0, qj1, qjc, qjx] at h1
 refine rs (qqa (qz4 rfl rfl) (oa rfl (on (ac rfl (fun h4 => ?_) fun h4 => ?_))))
 ·
  have h4r := h4
  try simp only [nq, nr, nl, qj0, qj1, qjc, qjx] at h4
  refine qqe (rs (om rfl (on (qqf (qqr (ι := Nat × Nat) (fun x => x.1 ≤ 4) (fun x r => (68, .p (.int .i64 ((x.1 : Nat)))) :: r) (fun x r => (5, some (v5x3, .box 30 [.own 1005 x.2])) :: (1005, some (x.2, .row 69 2 (((difL m.1 q x.1)).map dC))) :: r) (fun x => 4 - x.1) (fun _ _ => rfl) (fun _ _ => rfl) (0, v1005x4) (by first | exact (by omega) | (dsimp only; exact (by omega))) ⟨⟨rfl, rfl⟩, ⟨rfl, trivial⟩, ⟨rfl, rfl, trivial⟩, ⟨rfl, rfl⟩, ⟨rfl, rfl⟩⟩ ?_)))))
  rintro ⟨y, v⟩ hy; dsimp only at hy ⊢; have hdf := difL_len (s := m.1) (r := q) (n := y)
  refine rs (qqa (qzb rfl rfl) (on (qqe (ac rfl (fun h5 => ?_) fun h5 => ?_))))
  ·
   have h5r := h5
   try simp only [nq, nr, nl, qj0, qj1, qjc, qjx] at h5
   refine qqj (qqe (qqf (rs (om rfl (oa rfl (on (rs (oa rfl (on (qjt 13 13 3 1 rfl fun v13 => ?_))))))))))
   refine qqe (rs (qqa (qqi qjy rfl rfl) (qqa (qqc qq9 rfl rfl rfl) (qqa (qqg Tryz.underlying23 rfl) (om rfl (on (qqf (qqr (ι := Nat × Nat) (fun x => x.1 ≤ q.2.1.length) (fun x r => (74, .p (.int .i64 ((x.1 : Nat)))) :: (13, .own 13 x.2) :: r) (fun x r => (13, some (x.2, .row 3 1 ((difV m.1 q y x.1).map dI))) :: r) (fun x => q.2.1.length - x.1) (fun _ _ => rfl) (fun _ _ => rfl) (0, v13) (by first | exact (Nat.zero_le _) | (dsimp only; exact (Nat.zero_le _))) ⟨⟨rfl, rfl⟩, ⟨rfl, rfl, trivial⟩, ⟨rfl, trivial⟩, ⟨rfl, rfl⟩, ⟨rfl, rfl⟩⟩ ?_))))))))
   rintro ⟨k, w⟩ hk; dsimp only at hk ⊢
   refine rs (qqa (qzb rfl rfl) (on (qqe (ac rfl (fun h6 => ?_) fun h6 => ?_))))
   ·
    have h6r := h6
    try simp only [nq, nr, nl, qj0, qj1, qjc, qjx] at h6
    refine qqj (qqe (qqf (qqe ?_)))
    have hv := vi_at hq (i := k) zat1
    have hs3 := hms.2 _ hv.1
    unfold viN at hv hs3
    have hdl := difV_len (s := m.1) (r := q) (x := y) (k := k)
    refine ar (qqa (qqy qqz rfl rfl rfl (qqh zat1) rfl) (qqa (qqp qq2 rfl (qqh zat1) rfl) (oa rfl (on (rs (om rfl (qqa (qqi qjs rfl rfl) (qqa (qqc qq9 rfl rfl rfl) (om rfl (qqa (qqy (n := (q.2.1.getD k default).toNat) qqz rfl rfl (by omega) (qqh zat1) rfl) (qqa (qqp qq2 rfl (qqh zat1) rfl) (qqa (j_le rfl rfl) (on (ac rfl (fun h7 => ?_) fun h7 => ?_))))))))))))))
    ·
     have h7r := h7
     try simp only [nq, nr, nl, qj0, qj1, qjc, qjx] at h7
     refine ar (om rfl (qqa (qqk (ys := [.sl _, .sl _]) qjw rfl rfl rfl (nb rfl)) (om rfl (om rfl ?_))))
     refine qq3 (qqn (v := .p _) (hp1 := []) [] false [] ent114 (f_bvZ m (q.2.1.getD k default) (y : Nat) hm (by omega) (by omega)) ⟨.inl ⟨rfl, rfl⟩, .inl ⟨rfl, rfl⟩, .inl ⟨rfl, rfl⟩, trivial⟩ trivial rfl rfl (fun h => by cases h) rfl (fun _ h => by cases h) (.inl rfl) rfl rfl) ?_
     refine qq5 (fun ver => qqw (parts := [(0, .tmp 89)]) (es := [[_]]) qqz qz7 rfl rfl (by decide) (by decide) rfl rfl (by simp) rfl) fun v90x7 => ?_
     refine qq5 (fun ver => qq6 qqz qz7 rfl rfl rfl rfl rfl rfl (by rw [qq0]; first | omega | (simp only [nr, nl, qj0, qj1, qjc, qjx]; omega)) zat1) fun v13x8 => ?_
     refine oa rfl (on (ar (qqa (qjh rfl rfl zat1 zat1) (om rfl (on ?_)))))
     exact ⟨(k + 1, v13x8), (by first | exact zat1 | (dsimp only; exact zat1)), ⟨⟨rfl, rfl⟩, ⟨rfl, rfl, trivial⟩, ⟨qza (by dsimp only; rw [difV_yes (by unfold viN; omega), List.map_append]; rfl), trivial⟩, ⟨rfl, rfl⟩, ⟨rfl, rfl⟩⟩, (by first | exact zat1 | (dsimp only; exact zat1))⟩
    have h7r := h7
    try simp only [nq, nr, nl, qj0, qj1, qjc, qjx] at h7
    refine qqj (ar (qqa (qjh rfl rfl zat1 zat1) (om rfl (on ?_))))
    exact ⟨(k + 1, w), (by first | exact zat1 | (dsimp only; exact zat1)), ⟨⟨rfl, rfl⟩, ⟨rfl, rfl, trivial⟩, ⟨qza (by dsimp only; rw [difV_no (by unfold viN; omega)]), trivial⟩, ⟨rfl, rfl⟩, ⟨rfl, rfl⟩⟩, (by first | exact zat1 | (dsimp only; exact zat1))⟩
   have h6r := h6
   try simp only [nq, nr, nl, qj0, qj1, qjc, qjx] at h6
   refine qja (qqe ?_)
   obtain rfl : k = q.2.1.length := zat1
   have hdl := difV_len (s := m.1) (r := q) (x := y) (k := q.2.1.length)
   refine ar (om rfl (qqa (qq7 Tryz.underlying23 rfl rfl) (qqa (j_gt rfl rfl) (on (ac rfl (fun h8 => ?_) fun h8 => ?_)))))
   ·
    have h8r := h8
    try simp only [nq, nr, nl, qj0, qj1, qjc, qjx] at h8
    refine rs (om rfl ?_)
    refine qq3 (qqn (v := .tup []) (hp1 := [(13, some (w, .row 3 1 _))]) [(13, w)] false [13] ent153 (f_sortI (difV m.1 q y q.2.1.length) (difV_apt hm hq (Nat.le_refl _)) (fun v hv => difV_pos hm hq (Nat.le_refl _) hv)) ⟨.inl ⟨rfl, rfl⟩, trivial⟩ ⟨⟨rfl, rfl⟩, trivial⟩ rfl rfl (fun h => by cases h) rfl (List.all_eq_true.1 rfl) (.inl rfl) rfl rfl) ?_
    refine on (a_freeze' 13 (noA _ _ _ _ _) rfl rfl ?_)
    refine qjz qzj (by kernel_rfl) (by kernel_rfl) fun vf => ?_
    refine qqq (qqc leaf30 rfl rfl rfl) (qqq (qql (evo rfl)) ?_)
    refine d_v0' (qqn (v := .agg [.sl _, .p _]) (hp1 := []) [] false [] ent92 (f_amo (srtS (difV m.1 q y q.2.1.length)) (by rw [qjx]; omega) (fun v hv => difV_pos hm hq (Nat.le_refl _) (srtS_perm.mem_iff.1 hv))) ⟨.inl ⟨rfl, rfl⟩, trivial⟩ trivial rfl rfl (fun h => by cases h) rfl (fun _ h => by cases h) (.inl rfl) rfl rfl) ?_
    refine d_n' (fun ver => qqw (parts := [(0, .tmp 100)]) (es := [[_, _]]) slt30 qz5 rfl rfl (by decide) (by decide) rfl rfl (by simp) rfl) ?_
    refine d_n' (fun ver => qq6 slt30 qz5 rfl rfl rfl rfl rfl rfl (by rw [qq0]; first | omega | (simp only [nr, nl, qj0, qj1, qjc, qjx]; omega)) zat1) ?_
    refine d_s' (qje leaf30 rfl rfl (nb rfl) (evo rfl) rfl) ?_
    refine qze (by kernel_rfl) (by kernel_rfl) ?_
    refine ar (qqa (qjh rfl rfl zat1 zat1) (om rfl (on ?_)))
    exact ⟨(y + 1, (vf 1005)), (by first | exact zat1 | (dsimp only; exact zat1)), ⟨⟨rfl, rfl⟩, ⟨rfl, trivial⟩, ⟨rfl, qza (by dsimp only; rw [difL_yes zat1, List.map_append]; rfl), trivial⟩, ⟨rfl, rfl⟩, ⟨rfl, rfl⟩⟩, (by first | exact zat1 | (dsimp only; exact zat1))⟩
   have h8r := h8
   try simp only [nq, nr, nl, qj0, qj1, qjc, qjx] at h8
   refine qqj (ar (qqa (qjh rfl rfl zat1 zat1) (om rfl (on ?_))))
   exact ⟨(y + 1, v), (by first | exact zat1 | (dsimp only; exact zat1)), ⟨⟨rfl, rfl⟩, ⟨rfl, trivial⟩, ⟨rfl, qza (by dsimp only; rw [difL_no zat1]), trivial⟩, ⟨rfl, rfl⟩, ⟨rfl, rfl⟩⟩, (by first | exact zat1 | (dsimp only; exact zat1))⟩
  have h5r := h5
  try simp only [nq, nr, nl, qj0, qj1, qjc, qjx] at h5
  refine qja (qqe (qjf 0 5 (by decide) trivial rfl rfl rfl rfl ?_))
  try dsimp only [List.set]
  refine ar (qqa (qqc leaf30 rfl rfl rfl) (oa rfl (on (qqm ?_))))
  exact fin_sl rfl ⟨by rw [encR, if_neg (by omega), if_pos (by omega), show y = 4 by first | omega | (simp only [nr, nl, qj0, qj1, qjc, qjx]; omega)], rfl, rfl⟩
 have h4r := h4
 try simp only [nq, nr, nl, qj0, qj1, qjc, qjx] at h4
 refine qqj (rs (oa rfl (on (qjt 16 16 3 1 rfl fun v16 => ?_))))
 refine qqe (rs (qqa (qqi qjy rfl rfl) (qqa (qqc qq9 rfl rfl rfl) (qqa (qqg Tryz.underlying23 rfl) (om rfl (on (qqf (qqr (ι := Nat × Nat) (fun x => x.1 ≤ q.2.1.length) (fun x r => (108, .p (.int .i64 ((x.1 : Nat)))) :: (16, .own 16 x.2) :: r) (fun x r => (16, some (x.2, .row 3 1 ((valsC (q.2.1.take x.1) m.1).map dI))) :: r) (fun x => q.2.1.length - x.1) (fun _ _ => rfl) (fun _ _ => rfl) (0, v16) (by first | exact (Nat.zero_le _) | (dsimp only; exact (Nat.zero_le _))) ⟨⟨rfl, rfl⟩, ⟨rfl, rfl, trivial⟩, ⟨rfl, trivial⟩, ⟨rfl, rfl⟩, ⟨rfl, rfl⟩⟩ ?_))))))))
 rintro ⟨k, w⟩ hk; dsimp only at hk ⊢
 refine rs (qqa (qzb rfl rfl) (on (qqe (ac rfl (fun h9 => ?_) fun h9 => ?_))))
 ·
  have h9r := h9
  try simp only [nq, nr, nl, qj0, qj1, qjc, qjx] at h9
  refine qqj (qqe (qqf (qqe ?_)))
  have hv := vi_at hq (i := k) zat1
  have hs3 := hms.2 _ hv.1
  unfold viN at hv hs3
  refine ar (qqa (qqy qqz rfl rfl rfl (qqh zat1) rfl) (qqa (qqp qq2 rfl (qqh zat1) rfl) (oa rfl (on (ar (om rfl (qqa (qqi qjs rfl rfl) (qqa (qqc qq9 rfl rfl rfl) (om rfl (qqa (qqy (n := (q.2.1.getD k default).toNat) qqz rfl rfl (by omega) (qqh zat1) rfl) (qqa (qqp qq2 rfl (qqh zat1) rfl) (qq5 (fun ver => qqw (parts := [(0, .tmp 117)]) (es := [[_]]) qqz qz7 rfl rfl (by decide) (by decide) rfl rfl (by simp) rfl) fun v118x9 => ?_))))))))))))
  refine qq5 (fun ver => qq6 qqz qz7 rfl rfl rfl rfl rfl rfl (by rw [qq0]; first | omega | (simp only [nr, nl, qj0, qj1, qjc, qjx]; omega)) zat1) fun v16x10 => ?_
  refine oa rfl (on (ar (qqa (qjh rfl rfl zat1 zat1) (om rfl (on ?_)))))
  exact ⟨(k + 1, v16x10), (by first | exact zat1 | (dsimp only; exact zat1)), ⟨⟨rfl, rfl⟩, ⟨rfl, rfl, trivial⟩, ⟨qza (by dsimp only; rw [szR_next zat1, List.map_append]; rfl), trivial⟩, ⟨rfl, rfl⟩, ⟨rfl, rfl⟩⟩, (by first | exact zat1 | (dsimp only; exact zat1))⟩
 have h9r := h9
 try simp only [nq, nr, nl, qj0, qj1, qjc, qjx] at h9
 refine qja (qqe ?_)
 obtain rfl : k = q.2.1.length := zat1
 rw [List.take_length]
 refine a_freeze' 16 (noA _ _ _ _ _) rfl rfl ?_
 refine ar (om rfl (om rfl (qqa (qqg Tryz.underlying23 rfl) (qq5 (fun ver => j_make (n := (valsC q.2.1 m.1).length) qqz qz7 rfl rfl (by decide) rfl rfl rfl rfl zat1 (by rw [qq0]; first | omega | (simp only [nr, nl, qj0, qj1, qjc, qjx]; omega))) fun v124x11 => ?_))))
 refine qqa (j_makeFunc (f := 155) (xs := [.tmp 3, .tmp 2, .tmp 5]) (caps := [.ptr 3 v3x2 0, .ptr 2 v2x1 0, .ptr 5 v5x3 0]) rfl) ?_
 refine qj9 (fun ver => qj8 (v := .tup []) (hp1 := [(3, some (v3x2, .box 123 [.p _, .sl _, .sl _, .p _, .sl _])), (2, some (v2x1, .box 60 [.sl _, .sl _])), (5, some (v5x3, .box 30 [.own 126 ver])), (1005, some (v1005x4, .gone)), (124, some (v124x11, .row 3 1 _)), (126, some (ver, .row 69 2 _))]) [(3, v3x2), (2, v2x1), (5, v5x3), (1005, v1005x4), (124, v124x11)] false [124, 3, 2, 5, 1005] ent154 (f_eachE 155 m q hm hq ent155 (fun x o hx ho => f_enc1 m q hm hq x o hx ho)) ⟨.inl ⟨rfl, rfl⟩, .inl ⟨rfl, rfl⟩, .inl ⟨rfl, rfl⟩, trivial⟩ ⟨⟨rfl, rfl⟩, ⟨rfl, rfl⟩, ⟨rfl, rfl⟩, ⟨rfl, rfl⟩, ⟨rfl, rfl⟩, trivial⟩ rfl rfl rfl (fun h => by cases h) rfl (List.all_eq_true.1 rfl) (.inl rfl) rfl rfl) fun v126x12 => ?_
 refine on (qqe (qjf 0 5 (by decide) trivial rfl rfl rfl rfl ?_))
 try dsimp only [List.set]
 refine ar (qqa (qqc leaf30 rfl rfl rfl) (oa rfl (on (qqm ?_))))
 exact fin_sl rfl ⟨by rw [encR, if_neg (by omega), if_neg (by omega)], rfl, rfl⟩
theorem f_encM (m : Md) : Fn Tryz.prog 37 [.agg [.sl (m.1.map dI), .sl (m.2.map dR)]] [] (fun rr ii nn => rr = .tup [.sl ((emL m).map dC), .p (.bool (emOk m))] ∧ ii = [] ∧ nn = []) := by
 refine qjm Tryz.func37 rfl (nb rfl) fun w X g => ?_
 show AWp _ _ _ ⟨[(0, .agg [.sl (m.1.map dI), .sl (m.2.map dR)])], []⟩
 refine rs (qq5 (fun ver => qj3 rfl) fun v1x1 => ?_)
 refine oa rfl (oa rfl (on (qqe (rs (qqa (qqk (ys := [.sl _, .sl _]) qjw rfl rfl rfl (nb rfl)) ?_)))))
 refine qq3 (qqn (v := .p _) (hp1 := []) [] false [] ent90 (f_mvImpl m) ⟨.inl ⟨rfl, rfl⟩, trivial⟩ trivial rfl rfl (fun h => by cases h) rfl (fun _ h => by cases h) (.inl rfl) rfl rfl) ?_
 refine qqa (qzw rfl) (on (ac rfl (fun h1 => ?_) fun h1 => ?_))
 ·
  have h1r := h1
  try simp only [nq, nr, nl] at h1
  refine rs (oa rfl (oa rfl (on (a_nil 2 rfl ?_))))
  refine qqm ?_
  exact ⟨[.sl _, .p _], .tup [.sl _, .p _], [], [], [], ⟨rfl, rfl, trivial⟩, rfl, rfl, trivial, rfl, rfl, ⟨by rw [emo_bad (.inl (by assumption)), show emOk m = false from emo_no (.inl (by assumption))]; rfl, rfl, rfl⟩⟩
 have h1r := h1
 try simp only [nq, nr, nl] at h1
 refine qqj (qqe ?_)
 have hm : mOk m = true := by assumption
 have hms := qzx hm
 have hml := mOk_rl hm
 refine ar (oa rfl (on (qjt 4 4 69 2 rfl fun v4 => ?_)))
 refine qqe (rs (qqa (qqi qjs rfl rfl) (qqa (qqc qq9 rfl rfl rfl) (qqa (qqg Tryz.underlying23 rfl) (om rfl (on (qqf (qqr (ι := Nat × Nat) (fun x => x.1 ≤ m.1.length) (fun x r => (17, .p (.int .i64 ((x.1 : Nat)))) :: (4, .own 4 x.2) :: r) (fun x r => (4, some (x.2, .row 69 2 (((encB m.1 x.1)).map dC))) :: r) (fun x => m.1.length - x.1) (fun _ _ => rfl) (fun _ _ => rfl) (0, v4) (by first | exact (Nat.zero_le _) | (dsimp only; exact (Nat.zero_le _))) ⟨⟨rfl, rfl⟩, ⟨rfl, rfl, trivial⟩, ⟨rfl, trivial⟩, ⟨rfl, rfl⟩, ⟨rfl, rfl⟩⟩ ?_))))))))
 rintro ⟨k, v⟩ hk; dsimp only at hk ⊢
 refine rs (qqa (qzb rfl rfl) (on (qqe (ac rfl (fun h2 => ?_) fun h2 => ?_))))
 ·
  have h2r := h2
  try simp only [nq, nr, nl] at h2
  refine qqj (qqe (qqf (rs (om rfl (oa rfl (on (qqe ?_)))))))
  have hbl := boxV_len hm (c := k) zz
  have hel := encB_len (s := m.1) (n := k)
  refine ar (qqa (qqk (ys := [.sl _, .sl _]) qjw rfl rfl rfl (nb rfl)) (om rfl ?_))
  refine qj9 (fun ver => qj8 (v := .own 22 ver) (hp1 := [(22, some (ver, .row 3 1 _))]) [] false [] ent91 (f_varsOf m k hm zz) ⟨.inl ⟨rfl, rfl⟩, .inl ⟨rfl, rfl⟩, trivial⟩ trivial rfl rfl rfl (fun h => by cases h) rfl (List.all_eq_true.1 rfl) (.inl rfl) rfl rfl) fun v22x2 => ?_
  refine op_freezeK 22 trivial rfl rfl rfl ?_
  refine oa rfl (on (rs (om rfl ?_)))
  refine qq3 (qqn (v := .tup [.agg [.sl _, .p _], .p _]) (hp1 := []) [] false [] ent42 (f_clauseImplP (boxV m.1 k) (boxV_apt hm zz)) ⟨.inl ⟨rfl, rfl⟩, trivial⟩ trivial rfl rfl (fun h => by cases h) rfl (fun _ h => by cases h) (.inl rfl) rfl rfl) ?_
  refine om rfl (qqa (qjg rfl rfl) (qqa (qjg rfl rfl) (qq5 (fun ver => qjv qz5 rfl) fun v7x3 => ?_)))
  refine qjo (qqs qzn rfl rfl rfl rfl rfl rfl) ?_
  refine oa rfl (on (qjz qzj (by kernel_rfl) (by kernel_rfl) fun vf => ?_))
  refine qqq (qql (evo rfl)) (qqq (qqk (ys := [.sl _, .p _]) qzn rfl rfl rfl (nb rfl)) (qqq (qql (evo rfl)) ?_))
  refine d_v0' (qqn (v := .agg [.sl _, .p _]) (hp1 := []) [] false [] ent92 (f_amo (boxV m.1 k) (by omega) (boxV_pos hm zz)) ⟨.inl ⟨rfl, rfl⟩, trivial⟩ trivial rfl rfl (fun h => by cases h) rfl (fun _ h => by cases h) (.inl rfl) rfl rfl) ?_
  refine d_n' (fun ver => qqw (parts := [(0, .tmp 29), (1, .tmp 31)]) (es := [[_, _], [_, _]]) slt30 qz5 rfl rfl (by decide) (by decide) rfl rfl (by simp) rfl) ?_
  refine d_n' (fun ver => qq6 slt30 qz5 rfl rfl rfl rfl rfl rfl (by rw [qq0]; first | omega | (simp only [nr, nl]; omega)) zz) ?_
  refine qqq (qzp (evo rfl)) (qze (by kernel_rfl) (by kernel_rfl) ?_)
  refine ar (qqa (qjh rfl rfl zz zz) (om rfl (on ?_)))
  exact ⟨(k + 1, (vf 4)), (by first | exact zz | (dsimp only; exact zz)), ⟨⟨rfl, rfl⟩, ⟨rfl, rfl, trivial⟩, ⟨qza (by dsimp only; rw [encB_next, List.map_append]; rfl), trivial⟩, ⟨rfl, rfl⟩, ⟨rfl, rfl⟩⟩, (by first | exact zz | (dsimp only; exact zz))⟩
 have h2r := h2
 try simp only [nq, nr, nl] at h2
 refine qja (qqe (rs (qqa (qqi qzt rfl rfl) (qqa (qqc leaf58 rfl rfl rfl) (qqa (qqg Tryz.underlying58 rfl) (om rfl (on (qqf (qqr (ι := Nat × Nat) (fun x => x.1 ≤ m.2.length) (fun x r => (38, .p (.int .i64 ((x.1 : Nat)))) :: (4, .own 4 x.2) :: r) (fun x r => (4, some (x.2, .row 69 2 (((encM m x.1)).map dC))) :: r) (fun x => m.2.length - x.1) (fun _ _ => rfl) (fun _ _ => rfl) (0, v) (by first | exact (Nat.zero_le _) | (dsimp only; exact (Nat.zero_le _))) ⟨⟨rfl, rfl⟩, ⟨rfl, rfl, trivial⟩, ⟨qza (by rw [encM_0 (k := k) zz]), trivial⟩, ⟨rfl, rfl⟩, ⟨rfl, rfl⟩⟩ ?_)))))))))
 rintro ⟨k, v⟩ hk; dsimp only at hk ⊢
 refine rs (qqa (qzb rfl rfl) (on (qqe (ac rfl (fun h3 => ?_) fun h3 => ?_))))
 ·
  have h3r := h3
  try simp only [nq, nr, nl] at h3
  refine qqj (qqe (qqf (rs (qqa (qqy slt58 rfl rfl rfl (qqh zz) rfl) (qqa (qzf (ys := [.p _, .sl _, .sl _, .p _, .sl _]) qzd rfl (qqh zz) rfl (Nat.le_refl _)) (qq5 (fun ver => qjv elt123 rfl) fun v10x4 => ?_))))))
  refine qjo (qqs qzd rfl rfl rfl rfl rfl rfl) ?_
  refine on ?_
  have hel := encM_len hm (k := k) zz
  have her := encR_len hm (mOk_rule hm (k := k) zz)
  refine ar (om rfl (qqa (qqk (ys := [.sl _, .sl _]) qjw rfl rfl rfl (nb rfl)) (qqa (qqk (ys := [.p _, .sl _, .sl _, .p _, .sl _]) qzd rfl rfl rfl (nb rfl)) ?_)))
  refine qq3 (qqn (v := .sl _) (hp1 := []) [] false [] ent93 (f_encR m (m.2.getD k default) hm (mOk_rule hm zz)) ⟨.inl ⟨rfl, rfl⟩, .inl ⟨rfl, rfl⟩, trivial⟩ trivial rfl rfl (fun h => by cases h) rfl (fun _ h => by cases h) (.inl rfl) rfl rfl) ?_
  refine qq5 (fun ver => qz8 slt30 qz5 rfl rfl rfl rfl (by intro x hx; obtain ⟨t, _, rfl⟩ := List.mem_map.1 hx; rfl) (all_lf_dC _) (by rw [qq0]; first | omega | (simp only [nr, nl]; omega)) zz) fun v4x5 => ?_
  refine oa rfl (on (ar (qqa (qjh rfl rfl zz zz) (om rfl (on ?_)))))
  exact ⟨(k + 1, v4x5), (by first | exact zz | (dsimp only; exact zz)), ⟨⟨rfl, rfl⟩, ⟨rfl, rfl, trivial⟩, ⟨qza (by dsimp only; rw [encM_next zz, List.map_append]), trivial⟩, ⟨rfl, rfl⟩, ⟨rfl, rfl⟩⟩, (by first | exact zz | (dsimp only; exact zz))⟩
 have h3r := h3
 try simp only [nq, nr, nl] at h3
 refine qja (qqe (qqe ?_))
 obtain rfl : k = m.2.length := zz
 have hel := encM_len hm (k := m.2.length) zz
 refine ar (om rfl (qqa (qq7 Tryz.underlying30 rfl rfl) (qqa (j_gt rfl rfl) (on (ac rfl (fun h4 => ?_) fun h4 => ?_)))))
 ·
  have h4r := h4
  try simp only [nq, nr, nl] at h4
  refine rs (oa rfl (oa rfl (on (a_nil 2 rfl ?_))))
  refine qqm ?_
  exact ⟨[.sl _, .p _], .tup [.sl _, .p _], [], [], [], ⟨rfl, rfl, trivial⟩, rfl, rfl, trivial, rfl, rfl, ⟨by rw [emo_bad (.inr (by omega)), show emOk m = false from emo_no (.inr (by omega))]; rfl, rfl, rfl⟩⟩
 have h4r := h4
 try simp only [nq, nr, nl] at h4
 refine qqj (rs (om rfl (oa rfl (oa rfl (on (a_freeze' 2 (noA _ _ _ _ _) rfl rfl ?_))))))
 refine qqm ?_
 exact ⟨[.sl _, .p _], .tup [.sl _, .p _], [], [], [], ⟨rfl, rfl, trivial⟩, rfl, rfl, trivial, rfl, rfl, ⟨by rw [emo_good hm (by omega), show emOk m = true from emo_yes hm (by omega)], rfl, rfl⟩⟩
theorem f_proveImpl (l : List Con) (c : Con) (fu : Int) (hc : cOk c = true) (hl : l.length < 400) : Fn Tryz.prog 44 [.sl (l.map dC), .agg [.sl (c.1.map dT), .p (.int .i64 c.2)], .p (.int .i64 (fu))] [] (fun rr ii nn => rr = .tup [.p (.int .i64 (svC (l ++ [negC c]) fu)), .sl ((svV (l ++ [negC c]) fu).map dB), .sl ((svS (l ++ [negC c]) fu).map dSt)] ∧ ii = [] ∧ nn = []) := by
 refine qjm Tryz.func44 rfl (nb rfl) fun w X g => ?_
 show AWp _ _ _ ⟨[(0, .sl (l.map dC)), (1, .agg [.sl (c.1.map dT), .p (.int .i64 c.2)]), (2, .p (.int .i64 (fu)))], []⟩
 refine rs (qq5 (fun ver => qj3 rfl) fun v4x1 => ?_)
 refine oa rfl (oa rfl (oa rfl (on (qqe (rs (qqa (qqk (ys := [.sl _, .p _]) qzn rfl rfl rfl (nb rfl)) ?_))))))
 refine qq3 (qqn (v := .p _) (hp1 := []) [] false [] ent115 (f_cvImpl c) ⟨.inl ⟨rfl, rfl⟩, trivial⟩ trivial rfl rfl (fun h => by cases h) rfl (fun _ h => by cases h) (.inl rfl) rfl rfl) ?_
 refine qqa (qzw rfl) (om rfl (qqx 12 rfl (fun h1 => ?_) (fun h1 => ?_)))
 ·
  have h1r := h1
  try simp only [nq, nr, nl] at h1
  refine qqa (qqb rfl rfl h1r) (qqa (qqb rfl rfl h1r) (qqa (qqb rfl rfl h1r) (qqa (qqu rfl h1r (evo rfl)) (on (a_tt rfl ?_)))))
  refine rs (oa rfl (oa rfl (oa rfl (on (qqm ?_)))))
  exact ⟨[.p _, .p _, .p _], .tup [.p _, .p _, .p _], [], [], [], ⟨rfl, rfl, rfl, trivial⟩, rfl, rfl, trivial, rfl, rfl, ⟨by first | rfl | (exfalso; simp_all; done) | (exfalso; simp_all; omega), rfl, rfl⟩⟩
 have h1r := h1
 try simp only [nq, nr, nl] at h1
 refine qqa (qqd rfl rfl h1r (qql (evo rfl))) (qqa (qqd rfl rfl h1r (qqg Tryz.underlying30 rfl)) (qqa (qqd rfl rfl h1r (j_ge rfl rfl)) (qqa (qqt rfl h1r (evo rfl)) (on (ac rfl (fun h2 => ?_) fun h2 => ?_)))))
 ·
  have h2r := h2
  try simp only [nq, nr, nl] at h2
  exact absurd h2r (by simp [hc]; omega)
 have h2r := h2
 try simp only [nq, nr, nl] at h2
 refine qqj (qqe (qjz qzj (by kernel_rfl) (by kernel_rfl) fun vf => ?_))
 refine qqq (qql (evo rfl)) ?_
 refine d_n1' (fun ver => qj8 (v := .own 18 ver) (hp1 := [(18, some (ver, .row 69 2 _))]) [] false [] ent57 (f_cloneC l (by omega)) ⟨.inl ⟨rfl, rfl⟩, trivial⟩ trivial rfl rfl rfl (fun h => by cases h) rfl (List.all_eq_true.1 rfl) (.inl rfl) rfl rfl) ?_
 refine qqq (qqk (ys := [.sl _, .p _]) qzn rfl rfl rfl (nb rfl)) ?_
 refine d_v0' (qqn (v := .agg [.sl _, .p _]) (hp1 := []) [] false [] ent116 (f_negationF c hc) ⟨.inl ⟨rfl, rfl⟩, trivial⟩ trivial rfl rfl (fun h => by cases h) rfl (fun _ h => by cases h) (.inl rfl) rfl rfl) ?_
 refine d_n' (fun ver => qqw (parts := [(0, .tmp 20)]) (es := [[_, _]]) slt30 qz5 rfl rfl (by decide) (by decide) rfl rfl (by simp) rfl) ?_
 refine d_n1' (fun ver => j_append_ownN (by decide) slt30 qz5 rfl rfl rfl rfl rfl rfl (by rw [qq0]; first | omega | (simp only [nr, nl]; omega)) zz (show _ = (l ++ [negC c]).map dC from by rw [List.map_append]; rfl)) ?_
 refine qqq (qql (evo rfl)) ?_
 refine d_v0' (qqn (v := .tup [.p _, .sl _, .sl _]) (hp1 := [(22, some ((vf 22), .row 69 2 _))]) [(22, (vf 22))] false [22] ent74 (f_solveImplO (l ++ [negC c]) fu) ⟨.inl ⟨rfl, rfl⟩, .inl ⟨rfl, rfl⟩, trivial⟩ ⟨⟨rfl, rfl⟩, trivial⟩ rfl rfl (fun h => by cases h) rfl (List.all_eq_true.1 rfl) (.inl rfl) rfl rfl) ?_
 refine qqq (qjg rfl rfl) (qqq (qjg rfl rfl) (qqq (qjg rfl rfl) (qqq (qzp (evo rfl)) (qqq (qzp (evo rfl)) (qqq (qzp (evo rfl)) (qze (by kernel_rfl) (by kernel_rfl) ?_))))))
 refine qqm ?_
 exact ⟨[.p _, .sl _, .sl _], .tup [.p _, .sl _, .sl _], [], [], [], ⟨rfl, rfl, rfl, trivial⟩, rfl, rfl, trivial, rfl, rfl, ⟨by first | rfl | (exfalso; simp_all; done) | (exfalso; simp_all; omega), rfl, rfl⟩⟩
end Go.Ab

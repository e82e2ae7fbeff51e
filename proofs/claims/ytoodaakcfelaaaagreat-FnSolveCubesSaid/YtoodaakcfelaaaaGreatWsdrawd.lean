/- Walks. -/
import Derived.Test.YtoodaakcfelaaaaGreatBase
import Derived.Test.YtoodaakcfelaaaaGreatSimp
import Derived.Test.YtoodaakcfelaaaaGreatWsdrawc
namespace Go.Ab
open Go.Proofs
set_option maxRecDepth 100000
set_option maxHeartbeats 8000000
set_option linter.unusedSimpArgs false
set_option linter.unusedVariables false
theorem f_l1Draw (b : List Int) (p : Nat) (most : Int) (hb : okB b) (hp : p ≤ 1099511000000) (hm : 0 ≤ most ∧ most ≤ 12) : Fn Tryz.prog 131 [.ptr 0 0 0, .p (.int .i64 (most))] [.box 151 [.sl (b.map dU), .p (.int .i64 ((p : Nat) : Int))]] (fun rr ii nn => rr = .agg [.own 1 0, .p (.int .i64 (l1C b p most).1.2)] ∧ ii = [.box 151 [.sl (b.map dU), .p (.int .i64 (((l1C b p most).2 : Nat) : Int))]] ∧ nn = [.row 135 2 ((l1C b p most).1.1.map dT)]) := by
 refine qjl Tryz.func131 rfl (nb rfl) fun w X g => ?_
 show AWp _ _ _ ⟨[(0, .ptr 0 0 0), (1, .p (.int .i64 (most)))], [(0, some (0, .box 151 [.sl (b.map dU), .p (.int .i64 ((p : Nat) : Int))]))]⟩
 refine rs (qqv (fun ver => qjd qjm rfl) fun v4x1 => ?_)
 refine on (rs (qqa (qjp (parts := []) str69 qjm rfl rfl) (qqv (fun ver => qjd qjm rfl) fun v5x2 => ?_)))
 refine qjg (qqe qq7 rfl rfl rfl rfl rfl rfl) ?_
 refine on (qjy 0 1005 135 2 (by decide) (id := 5) rfl rfl fun v1005x3 => ?_)
 refine qqf (rs (oa rfl (on (qqk (qq4 (ι := Nat × Nat) (fun x => x.1 ≤ most.toNat) (fun x r => (6, .p (.int .i64 ((x.1 : Nat) + 1))) :: r) (fun x r => (0, some (0, .box 151 [.sl (b.map dU), .p (.int .i64 (((l1D b p x.1).2 : Nat) : Int))])) :: (5, some (v5x2, .box 69 [.own 1005 x.2, .p (.int .i64 0)])) :: (1005, some (x.2, .row 135 2 ((l1D b p x.1).1.map dT))) :: r) (fun x => most.toNat - x.1) (fun _ _ => rfl) (fun _ _ => rfl) (0, v1005x3) (by first | exact (Nat.zero_le _) | (dsimp only; exact (Nat.zero_le _))) ⟨⟨rfl, rfl⟩, ⟨rfl, trivial⟩, ⟨rfl, rfl, rfl, trivial⟩, ⟨rfl, rfl⟩, ⟨rfl, rfl⟩⟩ ?_)))))
 rintro ⟨k, v⟩ hpre; dsimp only at hpre ⊢; have hdo := l1D_ok b p k
 refine qqf (rs (om rfl (om rfl (qqa (j_le rfl rfl) (on (ac rfl (fun h1 => ?_) fun h1 => ?_))))))
 ·
  have h1r := h1
  try simp only [nq, nr, nl] at h1
  refine qqo (qqf (qqk (rs (om rfl ?_))))
  refine qq0 (qqn (v := .p _) (hp1 := [(0, some (0, .box 151 [.sl _, .p _]))]) [(0, 0)] false [0] ent67 (f_pick _ _ _ (by assumption) (by omega)) ⟨.inl ⟨rfl, rfl⟩, .inl ⟨rfl, rfl⟩, trivial⟩ ⟨⟨rfl, rfl⟩, trivial⟩ rfl rfl (fun h => by cases h) rfl (List.all_eq_true.1 rfl) (.inl rfl) rfl rfl) ?_
  refine qqa (qz5 rfl rfl) (on (ac rfl (fun h2 => ?_) fun h2 => ?_))
  ·
   have h2r := h2
   try simp only [nq, nr, nl] at h2
   refine rs (om rfl (qqv (fun ver => qqh (parts := [(0, .const (.int .i64 1)), (1, .const (.int .i64 1)), (2, .const (.int .i64 2)), (3, .const (.int .i64 3)), (4, .const (.int .i64 1)), (5, .const (.int .i64 5)), (6, .const (.int .i64 4))]) (es := [[_], [_], [_], [_], [_], [_], [_]]) qjb elt3 rfl rfl (by decide) (by decide) rfl rfl (by simp) rfl) fun v19x4 => ?_))
   refine qq0 (qqn (v := .p _) (hp1 := [(0, some (0, .box 151 [.sl _, .p _])), (19, some (v19x4, .row 3 1 _))]) [(0, 0), (19, v19x4)] false [0, 19] ent130 (f_num b ((l1D b p k).2 + 1) [1, 1, 2, 3, 1, 5, 4] hb (by omega) (by decide) (by decide)) ⟨.inl ⟨rfl, rfl⟩, .inl ⟨rfl, rfl⟩, trivial⟩ ⟨⟨rfl, rfl⟩, ⟨rfl, rfl⟩, trivial⟩ rfl rfl (fun h => by cases h) rfl (List.all_eq_true.1 rfl) (.inl rfl) rfl rfl) ?_
   refine om rfl (qqa (qjp (parts := [(0, .tmp 20), (1, .tmp 21)]) str135 qjx rfl rfl) (qqv (fun ver => qjd qjx rfl) fun v7x5 => ?_))
   refine qjg (qqe qz7 rfl rfl rfl rfl rfl rfl) ?_
   refine on (qqf (rs (om rfl ?_)))
   refine qq0 (qqn (v := .p _) (hp1 := [(0, some (0, .box 151 [.sl _, .p _]))]) [(0, 0)] false [0] ent67 (f_pick _ _ _ (by assumption) (by omega)) ⟨.inl ⟨rfl, rfl⟩, .inl ⟨rfl, rfl⟩, trivial⟩ ⟨⟨rfl, rfl⟩, trivial⟩ rfl rfl (fun h => by cases h) rfl (List.all_eq_true.1 rfl) (.inl rfl) rfl rfl) ?_
   refine qqa (qz5 rfl rfl) (on (ac rfl (fun h3 => ?_) fun h3 => ?_))
   ·
    have h3r := h3
    try simp only [nq, nr, nl] at h3
    refine ar (om rfl (qqa (j_neg rfl zz zz) (qqa (qqi qzl rfl rfl) (qjg (qq5 qq6 rfl rfl (nb rfl) (evo rfl) rfl) ?_))))
    refine on (ar (qqa (qqi qjn rfl rfl) (qqa (qqc qjv rfl rfl rfl) (qqa (qqg (ys := [.p _, .p _]) qz7 rfl rfl rfl (nb rfl)) (qqv (fun ver => qqh (parts := [(0, .tmp 31)]) (es := [[_, _]]) qzc qjx rfl rfl (by decide) (by decide) rfl rfl (by simp) rfl) fun v32x6 => ?_)))))
    refine qqv (fun ver => qqs qzc qjx rfl rfl rfl rfl rfl rfl (by rw [qqu]; first | omega | (simp only [nr, nl]; omega)) zz) fun v1005x7 => ?_
    refine qqa (qqi qjn rfl rfl) (qjg (qq5 qjv rfl rfl (nb rfl) (evo rfl) rfl) ?_)
    refine on (ar (om rfl (qqa (qjh rfl rfl zz zz) (oa rfl (on ?_)))))
    exact ⟨(k + 1, v1005x7), (by first | exact zz | (dsimp only; exact zz)), ⟨⟨rfl, rfl⟩, ⟨rfl, trivial⟩, ⟨box2Eq (by rw [l1D_neg (by assumption) (by assumption)]), rfl, qj0 (by rw [l1D_neg (by assumption) (by assumption), List.map_append]; rfl), trivial⟩, ⟨rfl, rfl⟩, ⟨rfl, rfl⟩⟩, (by first | exact zz | (dsimp only; exact zz))⟩
   have h3r := h3
   try simp only [nq, nr, nl] at h3
   refine qqo (ar (qqa (qqi qjn rfl rfl) (qqa (qqc qjv rfl rfl rfl) (qqa (qqg (ys := [.p _, .p _]) qz7 rfl rfl rfl (nb rfl)) (qqv (fun ver => qqh (parts := [(0, .tmp 31)]) (es := [[_, _]]) qzc qjx rfl rfl (by decide) (by decide) rfl rfl (by simp) rfl) fun v32x8 => ?_)))))
   refine qqv (fun ver => qqs qzc qjx rfl rfl rfl rfl rfl rfl (by rw [qqu]; first | omega | (simp only [nr, nl]; omega)) zz) fun v1005x9 => ?_
   refine qqa (qqi qjn rfl rfl) (qjg (qq5 qjv rfl rfl (nb rfl) (evo rfl) rfl) ?_)
   refine on (ar (om rfl (qqa (qjh rfl rfl zz zz) (oa rfl (on ?_)))))
   exact ⟨(k + 1, v1005x9), (by first | exact zz | (dsimp only; exact zz)), ⟨⟨rfl, rfl⟩, ⟨rfl, trivial⟩, ⟨box2Eq (by rw [l1D_pos (by assumption) (by assumption)]), rfl, qj0 (by rw [l1D_pos (by assumption) (by assumption), List.map_append]; rfl), trivial⟩, ⟨rfl, rfl⟩, ⟨rfl, rfl⟩⟩, (by first | exact zz | (dsimp only; exact zz))⟩
  have h2r := h2
  try simp only [nq, nr, nl] at h2
  refine qqo (ar (om rfl (qqa (qjh rfl rfl zz zz) (oa rfl (on ?_)))))
  exact ⟨(k + 1, v), (by first | exact zz | (dsimp only; exact zz)), ⟨⟨rfl, rfl⟩, ⟨rfl, trivial⟩, ⟨box2Eq (by rw [l1D_no (by assumption)]), rfl, qj0 (by rw [l1D_no (by assumption)]), trivial⟩, ⟨rfl, rfl⟩, ⟨rfl, rfl⟩⟩, (by first | exact zz | (dsimp only; exact zz))⟩
 have h1r := h1
 try simp only [nq, nr, nl] at h1
 obtain rfl : k = most.toNat := by omega
 have hcw := coef_wide hdo.1 (by decide) (by decide)
 have htt := tot_all hcw
 refine qjf (rs (qqa (qqg (ys := [.own 1005 v, .p _]) qq7 rfl rfl rfl (nb rfl)) ?_))
 refine qq0 (qqn (v := .p _) (hp1 := []) [] true [1005] ent132 (f_l1TotalG ((l1D b p most.toNat).1, 0) hcw (by dsimp only; omega)) ⟨.inr ⟨rfl, view_agg rfl (view_cons (qzq rfl rfl) (view_cons rfl rfl)), rfl⟩, trivial⟩ trivial rfl rfl (fun _ => rfl) rfl (fun _ h => by cases h) (.inr ⟨rfl, by first | exact pl_new1 (fun _ => rfl) | exact pl_newC | (simp [plO, plV, plV.plL]; done)⟩) rfl rfl) ?_
 refine oa rfl (on (rs (om rfl (qqv (fun ver => qqh (parts := [(0, .const (.int .i64 1)), (1, .const (.int .i64 2)), (2, .const (.int .i64 1)), (3, .const (.int .i64 3)), (4, .const (.int .i64 0))]) (es := [[_], [_], [_], [_], [_]]) qjb elt3 rfl rfl (by decide) (by decide) rfl rfl (by simp) rfl) fun v38x10 => ?_))))
 refine qq0 (qqn (v := .p _) (hp1 := [(0, some (0, .box 151 [.sl _, .p _])), (38, some (v38x10, .row 3 1 _))]) [(0, 0), (38, v38x10)] false [0, 38] ent130 (f_num b (l1D b p most.toNat).2 [1, 2, 1, 3, 0] hb (by omega) (by decide) (by decide)) ⟨.inl ⟨rfl, rfl⟩, .inl ⟨rfl, rfl⟩, trivial⟩ ⟨⟨rfl, rfl⟩, ⟨rfl, rfl⟩, trivial⟩ rfl rfl (fun h => by cases h) rfl (List.all_eq_true.1 rfl) (.inl rfl) rfl rfl) ?_
 refine qqa (qqi qzi rfl rfl) (qjg (qq5 qq6 rfl rfl (nb rfl) (evo rfl) rfl) ?_)
 refine on (qqf (rs (om rfl ?_)))
 refine qq0 (qqn (v := .p _) (hp1 := [(0, some (0, .box 151 [.sl _, .p _]))]) [(0, 0)] false [0] ent67 (f_pick _ _ _ (by assumption) (by omega)) ⟨.inl ⟨rfl, rfl⟩, .inl ⟨rfl, rfl⟩, trivial⟩ ⟨⟨rfl, rfl⟩, trivial⟩ rfl rfl (fun h => by cases h) rfl (List.all_eq_true.1 rfl) (.inl rfl) rfl rfl) ?_
 refine qqa (qz5 rfl rfl) (on (ac rfl (fun h4 => ?_) fun h4 => ?_))
 ·
  have h4r := h4
  try simp only [nq, nr, nl] at h4
  refine ar (om rfl (om rfl (qqa (qjh rfl rfl zz zz) ?_)))
  refine qq0 (qqn (v := .p _) (hp1 := [(0, some (0, .box 151 [.sl _, .p _]))]) [(0, 0)] false [0] ent67 (f_pick _ _ _ (by assumption) (by omega)) ⟨.inl ⟨rfl, rfl⟩, .inl ⟨rfl, rfl⟩, trivial⟩ ⟨⟨rfl, rfl⟩, trivial⟩ rfl rfl (fun h => by cases h) rfl (List.all_eq_true.1 rfl) (.inl rfl) rfl rfl) ?_
  refine qqa (qqi qzi rfl rfl) (qjg (qq5 qq6 rfl rfl (nb rfl) (evo rfl) rfl) ?_)
  refine on (rs (qqa (qqg (ys := [.own 1005 v, .p _]) qq7 rfl rfl rfl (nb rfl)) (qjg (qqe qq7 rfl rfl rfl rfl rfl rfl) ?_)))
  refine on (qqx ?_)
  exact ⟨[.agg [.own 1005 v, .p _]], .agg [.own 1 0, .p _], [.box 151 [.sl _, .p _]], [.row 135 2 _], [(1005, v)], ⟨⟨_, _, _, _, rfl, rfl, qq7, rfl⟩, trivial⟩, rfl, rfl, ⟨⟨rfl, rfl⟩, ⟨rfl, rfl⟩, trivial⟩, rfl, rfl, ⟨by rw [l1C_y (by assumption)], by rw [l1C_y (by assumption)], by rw [l1C_y (by assumption)]⟩⟩
 have h4r := h4
 try simp only [nq, nr, nl] at h4
 refine qqo (rs (qqa (qqg (ys := [.own 1005 v, .p _]) qq7 rfl rfl rfl (nb rfl)) (qjg (qqe qq7 rfl rfl rfl rfl rfl rfl) ?_)))
 refine on (qqx ?_)
 exact ⟨[.agg [.own 1005 v, .p _]], .agg [.own 1 0, .p _], [.box 151 [.sl _, .p _]], [.row 135 2 _], [(1005, v)], ⟨⟨_, _, _, _, rfl, rfl, qq7, rfl⟩, trivial⟩, rfl, rfl, ⟨⟨rfl, rfl⟩, ⟨rfl, rfl⟩, trivial⟩, rfl, rfl, ⟨by rw [l1C_n (by assumption)], by rw [l1C_n (by assumption)], by rw [l1C_n (by assumption)]⟩⟩
theorem f_l1Mutate (b : List Int) (p : Nat) (c : Con) (hb : okB b) (hp : p ≤ 1099511000000) (hcl : c.1.length ≤ 100000) : Fn Tryz.prog 128 [.ptr 0 0 0, .agg [.sl (c.1.map dT), .p (.int .i64 c.2)]] [.box 151 [.sl (b.map dU), .p (.int .i64 ((p : Nat) : Int))]] (fun rr ii nn => rr = .agg [.sl ((mutC b p c).1.1.map dT), .p (.int .i64 (mutC b p c).1.2)] ∧ ii = [.box 151 [.sl (b.map dU), .p (.int .i64 (((mutC b p c).2 : Nat) : Int))]] ∧ nn = []) := by
 refine qjl Tryz.func128 rfl (nb rfl) fun w X g => ?_
 show AWp _ _ _ ⟨[(0, .ptr 0 0 0), (1, .agg [.sl (c.1.map dT), .p (.int .i64 c.2)])], [(0, some (0, .box 151 [.sl (b.map dU), .p (.int .i64 ((p : Nat) : Int))]))]⟩
 refine rs (qqv (fun ver => qzg rfl) fun v3x1 => ?_)
 refine qqv (fun ver => qjd qjm rfl) fun v4x2 => ?_
 refine on (rs (qqa (qqg (ys := [.sl _, .p _]) qq7 rfl rfl rfl (nb rfl)) ?_))
 refine qz0 (fun ver => qza (v := .agg [.own 8 ver, .p _]) (hp1 := [(8, some (ver, .row 135 2 _))]) [] false [] ent136 (f_copy c (by omega)) ⟨.inl ⟨rfl, rfl⟩, trivial⟩ trivial rfl rfl rfl (fun h => by cases h) rfl (List.all_eq_true.1 rfl) (.inl rfl) rfl rfl) fun v8x3 => ?_
 refine qqv (fun ver => qjd qjm rfl) fun v5x4 => ?_
 refine qjg (qqe qq7 rfl rfl rfl rfl rfl rfl) ?_
 refine on (rs (qqa (qqi qjn rfl rfl) (qqa (qqc qjv rfl rfl rfl) (qqa (qja Tryz.underlying67 rfl rfl) (oa rfl (on (qqf (rs (om rfl ?_)))))))))
 refine qq0 (qqn (v := .p _) (hp1 := [(0, some (0, .box 151 [.sl _, .p _]))]) [(0, 0)] false [0] ent67 (f_pick _ _ _ (by assumption) (by omega)) ⟨.inl ⟨rfl, rfl⟩, .inl ⟨rfl, rfl⟩, trivial⟩ ⟨⟨rfl, rfl⟩, trivial⟩ rfl rfl (fun h => by cases h) rfl (List.all_eq_true.1 rfl) (.inl rfl) rfl rfl) ?_
 refine on (qqk (rs (qqa (qz5 rfl rfl) (oa rfl (on (ac rfl (fun h1 => ?_) fun h1 => ?_))))))
 ·
  have h1r := h1
  try simp only [nq, nr, nl] at h1
  refine ar (om rfl (qqv (fun ver => qqh (parts := [(0, .const (.int .i64 (-1))), (1, .const (.int .i64 20001)), (2, .const (.int .i64 9223372036854775807))]) (es := [[_], [_], [_]]) qjb elt3 rfl rfl (by decide) (by decide) rfl rfl (by simp) rfl) fun v17x5 => ?_))
  refine qq0 (qqn (v := .p _) (hp1 := [(0, some (0, .box 151 [.sl _, .p _])), (17, some (v17x5, .row 3 1 _))]) [(0, 0), (17, v17x5)] false [0, 17] ent130 (f_num b (p + 1) [-1, 20001, 9223372036854775807] hb (by omega) (by decide) (by decide)) ⟨.inl ⟨rfl, rfl⟩, .inl ⟨rfl, rfl⟩, trivial⟩ ⟨⟨rfl, rfl⟩, ⟨rfl, rfl⟩, trivial⟩ rfl rfl (fun h => by cases h) rfl (List.all_eq_true.1 rfl) (.inl rfl) rfl rfl) ?_
  refine qqa (qqi qzi rfl rfl) (qjg (qq5 qq6 rfl rfl (nb rfl) (evo rfl) rfl) ?_)
  refine on (rs (qqa (qqg (ys := [.own 8 v8x3, .p _]) qq7 rfl rfl rfl (nb rfl)) (qjg (qqe qq7 rfl rfl rfl rfl rfl rfl) ?_)))
  refine on (qjk 0 4 (by decide) ⟨⟨_, _, rfl⟩, trivial⟩ rfl rfl rfl rfl ?_)
  try dsimp only [List.set]
  refine qqx ?_
  exact ⟨[.agg [.sl _, .p _]], .agg [.sl _, .p _], [.box 151 [.sl _, .p _]], [], [], ⟨⟨_, _, _, _, rfl, rfl, qq7, rfl⟩, trivial⟩, rfl, rfl, ⟨⟨rfl, rfl⟩, trivial⟩, rfl, rfl, ⟨by unfold mutC; rw [if_pos (by assumption)], by unfold mutC; rw [if_pos (by assumption)], rfl⟩⟩
 have h1r := h1
 try simp only [nq, nr, nl] at h1
 refine rs (qqa (qz5 rfl rfl) (oa rfl (on (ac rfl (fun h2 => ?_) fun h2 => ?_))))
 ·
  have h2r := h2
  try simp only [nq, nr, nl] at h2
  refine rs (om rfl (qqa (j_gt rfl rfl) (on (ac rfl (fun h3 => ?_) fun h3 => ?_))))
  ·
   have h3r := h3
   try simp only [nq, nr, nl] at h3
   refine qj3 qzr (by kernel_rfl) (by kernel_rfl) fun vf => ?_
   refine qql (qqi qjn rfl rfl) (qql (qqc qjv rfl rfl rfl) (qql (qqj (evo rfl)) (d_n' (fun ver => qqh (parts := [(0, .const (.int .i64 0)), (1, .const (.int .i64 (-1))), (2, .const (.int .i64 1001))]) (es := [[_], [_], [_]]) qjb elt3 rfl rfl (by decide) (by decide) rfl rfl (by simp) rfl) ?_)))
   refine d_v0' (qqn (v := .p _) (hp1 := [(0, some (0, .box 151 [.sl _, .p _])), (27, some ((vf 27), .row 3 1 _))]) [(0, 0), (27, (vf 27))] false [0, 27] ent130 (f_num b (p + 1) [0, -1, 1001] hb (by omega) (by decide) (by decide)) ⟨.inl ⟨rfl, rfl⟩, .inl ⟨rfl, rfl⟩, trivial⟩ ⟨⟨rfl, rfl⟩, ⟨rfl, rfl⟩, trivial⟩ rfl rfl (fun h => by cases h) rfl (List.all_eq_true.1 rfl) (.inl rfl) rfl rfl) ?_
   refine qql (qq2 qzc rfl rfl rfl rfl zz) (qql (j_fldpel qzp rfl rfl) (d_s' (j_storef_row qq6 rfl rfl (qqq zz) (nb rfl) (evo rfl) rfl rfl) ?_))
   refine qzf (by kernel_rfl) (by kernel_rfl) ?_
   refine a_row 8 (es' := (c.1.set 0 (ofV b (p + 1) [0, -1, 1001], (c.1.getD 0 default).2)).map dT) rfl (set_coef (i := 0) (by omega)) ?_
   refine rs (qqa (qqg (ys := [.own 8 v8x3, .p _]) qq7 rfl rfl rfl (nb rfl)) (qjg (qqe qq7 rfl rfl rfl rfl rfl rfl) ?_))
   refine on (qjk 0 4 (by decide) ⟨⟨_, _, rfl⟩, trivial⟩ rfl rfl rfl rfl ?_)
   try dsimp only [List.set]
   refine qqx ?_
   exact ⟨[.agg [.sl _, .p _]], .agg [.sl _, .p _], [.box 151 [.sl _, .p _]], [], [], ⟨⟨_, _, _, _, rfl, rfl, qq7, rfl⟩, trivial⟩, rfl, rfl, ⟨⟨rfl, rfl⟩, trivial⟩, rfl, rfl, ⟨by unfold mutC; rw [if_neg (by assumption), if_pos (by assumption), if_pos (by omega)], by unfold mutC; rw [if_neg (by assumption), if_pos (by assumption), if_pos (by omega)], rfl⟩⟩
  have h3r := h3
  try simp only [nq, nr, nl] at h3
  refine qqo (rs (qqa (qqg (ys := [.own 8 v8x3, .p _]) qq7 rfl rfl rfl (nb rfl)) (qjg (qqe qq7 rfl rfl rfl rfl rfl rfl) ?_)))
  refine on (qjk 0 4 (by decide) ⟨⟨_, _, rfl⟩, trivial⟩ rfl rfl rfl rfl ?_)
  try dsimp only [List.set]
  refine qqx ?_
  exact ⟨[.agg [.sl _, .p _]], .agg [.sl _, .p _], [.box 151 [.sl _, .p _]], [], [], ⟨⟨_, _, _, _, rfl, rfl, qq7, rfl⟩, trivial⟩, rfl, rfl, ⟨⟨rfl, rfl⟩, trivial⟩, rfl, rfl, ⟨by unfold mutC; rw [if_neg (by assumption), if_pos (by assumption), if_neg (by omega)], by unfold mutC; rw [if_neg (by assumption), if_pos (by assumption), if_neg (by omega)], rfl⟩⟩
 have h2r := h2
 try simp only [nq, nr, nl] at h2
 refine rs (qqa (qz5 rfl rfl) (oa rfl (on (ac rfl (fun h4 => ?_) fun h4 => ?_))))
 ·
  have h4r := h4
  try simp only [nq, nr, nl] at h4
  refine rs (om rfl (qqa (j_gt rfl rfl) (on (ac rfl (fun h5 => ?_) fun h5 => ?_))))
  ·
   have h5r := h5
   try simp only [nq, nr, nl] at h5
   refine qj3 qzr (by kernel_rfl) (by kernel_rfl) fun vf => ?_
   refine qql (qqi qjn rfl rfl) (qql (qqc qjv rfl rfl rfl) (qql (qqj (evo rfl)) (qql (qzw rfl rfl zz zz) (qql (qqj (evo rfl)) (d_n' (fun ver => qqh (parts := [(0, .const (.int .i64 0)), (1, .const (.int .i64 13)), (2, .const (.int .i64 (-13))), (3, .const (.int .i64 1)), (4, .const (.int .i64 (-9223372036854775808)))]) (es := [[_], [_], [_], [_], [_]]) qjb elt3 rfl rfl (by decide) (by decide) rfl rfl (by simp) rfl) ?_)))))
   refine d_v0' (qqn (v := .p _) (hp1 := [(0, some (0, .box 151 [.sl _, .p _])), (40, some ((vf 40), .row 3 1 _))]) [(0, 0), (40, (vf 40))] false [0, 40] ent130 (f_num b (p + 1) [0, 13, -13, 1, -9223372036854775808] hb (by omega) (by decide) (by decide)) ⟨.inl ⟨rfl, rfl⟩, .inl ⟨rfl, rfl⟩, trivial⟩ ⟨⟨rfl, rfl⟩, ⟨rfl, rfl⟩, trivial⟩ rfl rfl (fun h => by cases h) rfl (List.all_eq_true.1 rfl) (.inl rfl) rfl rfl) ?_
   refine qql (qq2 (n := c.1.length - 1) qzc rfl rfl rfl zz zz) (qql (j_fldpel qzl rfl rfl) (d_s' (j_storef_row qq6 rfl rfl (qqq zz) (nb rfl) (evo rfl) rfl rfl) ?_))
   refine qzf (by kernel_rfl) (by kernel_rfl) ?_
   refine a_row 8 (es' := (c.1.set (c.1.length - 1) ((c.1.getD (c.1.length - 1) default).1, ofV b (p + 1) [0, 13, -13, 1, -9223372036854775808])).map dT) rfl (set_lit (by omega)) ?_
   refine rs (qqa (qqg (ys := [.own 8 v8x3, .p _]) qq7 rfl rfl rfl (nb rfl)) (qjg (qqe qq7 rfl rfl rfl rfl rfl rfl) ?_))
   refine on (qjk 0 4 (by decide) ⟨⟨_, _, rfl⟩, trivial⟩ rfl rfl rfl rfl ?_)
   try dsimp only [List.set]
   refine qqx ?_
   exact ⟨[.agg [.sl _, .p _]], .agg [.sl _, .p _], [.box 151 [.sl _, .p _]], [], [], ⟨⟨_, _, _, _, rfl, rfl, qq7, rfl⟩, trivial⟩, rfl, rfl, ⟨⟨rfl, rfl⟩, trivial⟩, rfl, rfl, ⟨by unfold mutC; rw [if_neg (by assumption), if_neg (by assumption), if_pos (by assumption), if_pos (by omega)], by unfold mutC; rw [if_neg (by assumption), if_neg (by assumption), if_pos (by assumption), if_pos (by omega)], rfl⟩⟩
  have h5r := h5
  try simp only [nq, nr, nl] at h5
  refine qqo (rs (qqa (qqg (ys := [.own 8 v8x3, .p _]) qq7 rfl rfl rfl (nb rfl)) (qjg (qqe qq7 rfl rfl rfl rfl rfl rfl) ?_)))
  refine on (qjk 0 4 (by decide) ⟨⟨_, _, rfl⟩, trivial⟩ rfl rfl rfl rfl ?_)
  try dsimp only [List.set]
  refine qqx ?_
  exact ⟨[.agg [.sl _, .p _]], .agg [.sl _, .p _], [.box 151 [.sl _, .p _]], [], [], ⟨⟨_, _, _, _, rfl, rfl, qq7, rfl⟩, trivial⟩, rfl, rfl, ⟨⟨rfl, rfl⟩, trivial⟩, rfl, rfl, ⟨by unfold mutC; rw [if_neg (by assumption), if_neg (by assumption), if_pos (by assumption), if_neg (by omega)], by unfold mutC; rw [if_neg (by assumption), if_neg (by assumption), if_pos (by assumption), if_neg (by omega)], rfl⟩⟩
 have h4r := h4
 try simp only [nq, nr, nl] at h4
 refine rs (qqa (qz5 rfl rfl) (oa rfl (on (ac rfl (fun h6 => ?_) fun h6 => ?_))))
 ·
  have h6r := h6
  try simp only [nq, nr, nl] at h6
  refine ar (qqa (qqi qjn rfl rfl) (qqa (qqc qjv rfl rfl rfl) (qqa (qjp (parts := [(0, .const (.int .i64 1)), (1, .const (.int .i64 1))]) str135 qjx rfl rfl) ?_)))
  refine qqv (fun ver => qqh (parts := [(0, .tmp 48)]) (es := [[_, _]]) qzc qjx rfl rfl (by decide) (by decide) rfl rfl (by simp) rfl) fun v49x6 => ?_
  refine qqv (fun ver => qqs qzc qjx rfl rfl rfl rfl rfl rfl (by rw [qqu]; first | omega | (simp only [nr, nl]; omega)) zz) fun v8x7 => ?_
  refine qqa (qqi qjn rfl rfl) (qjg (qq5 qjv rfl rfl (nb rfl) (evo rfl) rfl) ?_)
  refine on (rs (qqa (qqg (ys := [.own 8 v8x7, .p _]) qq7 rfl rfl rfl (nb rfl)) (qjg (qqe qq7 rfl rfl rfl rfl rfl rfl) ?_)))
  refine on (qjk 0 4 (by decide) ⟨⟨_, _, rfl⟩, trivial⟩ rfl rfl rfl rfl ?_)
  try dsimp only [List.set]
  refine qqx ?_
  exact ⟨[.agg [.sl _, .p _]], .agg [.sl _, .p _], [.box 151 [.sl _, .p _]], [], [], ⟨⟨_, _, _, _, rfl, rfl, qq7, rfl⟩, trivial⟩, rfl, rfl, ⟨⟨rfl, rfl⟩, trivial⟩, rfl, rfl, ⟨by unfold mutC; rw [if_neg (by assumption), if_neg (by assumption), if_neg (by assumption), if_pos (by assumption), List.map_append]; rfl, by unfold mutC; rw [if_neg (by assumption), if_neg (by assumption), if_neg (by assumption), if_pos (by assumption)], rfl⟩⟩
 have h6r := h6
 try simp only [nq, nr, nl] at h6
 refine qqo (rs (qqa (qqg (ys := [.own 8 v8x3, .p _]) qq7 rfl rfl rfl (nb rfl)) (qjg (qqe qq7 rfl rfl rfl rfl rfl rfl) ?_)))
 refine on (qjk 0 4 (by decide) ⟨⟨_, _, rfl⟩, trivial⟩ rfl rfl rfl rfl ?_)
 try dsimp only [List.set]
 refine qqx ?_
 exact ⟨[.agg [.sl _, .p _]], .agg [.sl _, .p _], [.box 151 [.sl _, .p _]], [], [], ⟨⟨_, _, _, _, rfl, rfl, qq7, rfl⟩, trivial⟩, rfl, rfl, ⟨⟨rfl, rfl⟩, trivial⟩, rfl, rfl, ⟨by unfold mutC; rw [if_neg (by assumption), if_neg (by assumption), if_neg (by assumption), if_neg (by assumption)], by unfold mutC; rw [if_neg (by assumption), if_neg (by assumption), if_neg (by assumption), if_neg (by assumption)], rfl⟩⟩
end Go.Ab

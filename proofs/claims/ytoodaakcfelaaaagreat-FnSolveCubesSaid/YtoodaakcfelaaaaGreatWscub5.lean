/- Walks. -/
import Derived.Test.YtoodaakcfelaaaaGreatBase2
import Derived.Test.YtoodaakcfelaaaaGreatCub3
import Derived.Test.YtoodaakcfelaaaaGreatWscub4
import Derived.Test.YtoodaakcfelaaaaGreatWsrun8
import Derived.Test.YtoodaakcfelaaaaGreatWscp
import Derived.Test.YtoodaakcfelaaaaGreatWsdraw
import Derived.Test.YtoodaakcfelaaaaGreatWsprobd
import Derived.Test.YtoodaakcfelaaaaGreatWsdrawc
namespace Go.Ab
open Go.Proofs
set_option maxRecDepth 100000
set_option maxHeartbeats 8000000
set_option linter.unusedSimpArgs false
set_option linter.unusedVariables false
theorem f_l11Closed (b : List Int) (p : Nat) (hb : okB b) (hp : p ≤ 1099507000000) : Fn Tryz.prog 79 [.ptr 0 0 0] [.box 151 [.sl (b.map dU), .p (.int .i64 ((p : Nat) : Int))]] (fun rr ii nn => ∃ x : List Con × Nat, (okP x.1 16 12 ∧ p ≤ x.2 ∧ x.2 ≤ p + 710) ∧ rr = .own 1 0 ∧ ii = [.box 151 [.sl (b.map dU), .p (.int .i64 ((x.2 : Nat) : Int))]] ∧ nn = [.row 69 2 (x.1.map dC)]) := by
 refine qjl Tryz.func79 rfl (nb rfl) fun w X g => ?_
 show AWp _ _ _ ⟨[(0, .ptr 0 0 0)], [(0, some (0, .box 151 [.sl (b.map dU), .p (.int .i64 ((p : Nat) : Int))]))]⟩
 refine rs (oa rfl (on (rs (om rfl (op_callE1 (v := fun x ver => .own 6 ver) (hp1 := fun x ver => [(0, some (0, .box 151 [.sl _, .p _])), (6, some (ver, .row 69 2 _))]) [(0, 0)] false ent65 (f_l5Hard b p hb (by omega)) ⟨.inl ⟨rfl, rfl⟩, trivial⟩ ⟨⟨rfl, rfl⟩, trivial⟩ rfl rfl (fun _ => rfl) (fun _ => rfl) (.inl rfl) (fun _ _ => rfl) (fun _ _ => rfl) ?_)))))
 rintro ⟨l6, p6⟩ ⟨ho6, hp6⟩ v6x1
 try dsimp only at ho6
 try dsimp only at hp6
 dsimp only [List.cons_append, List.nil_append]
 refine oa rfl (on (qqf (qqf ?_)))
 have ho61 := ho6.1
 refine ar (om rfl ?_)
 refine qq0 (qqn (v := .p _) (hp1 := [(0, some (0, .box 151 [.sl _, .p _]))]) [(0, 0)] false [0] ent67 (f_pick b p6 3 hb (by omega)) ⟨.inl ⟨rfl, rfl⟩, .inl ⟨rfl, rfl⟩, trivial⟩ ⟨⟨rfl, rfl⟩, trivial⟩ rfl rfl (fun h => by cases h) rfl (List.all_eq_true.1 rfl) (.inl rfl) rfl rfl) ?_
 refine qqa (j_gt rfl rfl) (on (ac rfl (fun h1 => ?_) fun h1 => ?_))
 ·
  have h1r := h1
  try simp only [nq, nr, nl] at h1
  refine qqf ?_
  have hpk := pickV_lt (b := b) (p := (p6 + 1)) (n := 4) (by decide)
  refine ar (om rfl ?_)
  refine qq0 (qqn (v := .p _) (hp1 := [(0, some (0, .box 151 [.sl _, .p _]))]) [(0, 0)] false [0] ent67 (f_pick b (p6 + 1) 4 hb (by omega)) ⟨.inl ⟨rfl, rfl⟩, .inl ⟨rfl, rfl⟩, trivial⟩ ⟨⟨rfl, rfl⟩, trivial⟩ rfl rfl (fun h => by cases h) rfl (List.all_eq_true.1 rfl) (.inl rfl) rfl rfl) ?_
  refine qqa (qjh rfl rfl zz zz) (oa rfl (on (rs (om rfl (om rfl (qqa (qjp (parts := [(0, .const (.int .i64 1)), (1, .tmp 14)]) str135 qjx rfl rfl) ?_))))))
  refine qqv (fun ver => qqh (parts := [(0, .tmp 15)]) (es := [[_, _]]) qzc qjx rfl rfl (by decide) (by decide) rfl rfl (by simp) rfl) fun v16x2 => ?_
  refine op_freezeK 16 ⟨⟨_, _, rfl⟩, trivial⟩ rfl rfl rfl ?_
  refine qqa (qjp (parts := [(0, .tmp 16), (1, .const (.int .i64 1))]) str69 qjm rfl rfl) ?_
  refine qqv (fun ver => qqh (parts := [(0, .tmp 17)]) (es := [[_, _]]) qj7 qjm rfl rfl (by decide) (by decide) rfl rfl (by simp) rfl) fun v18x3 => ?_
  refine qqv (fun ver => qqs qj7 qjm rfl rfl rfl rfl rfl rfl (by rw [qqu]; first | omega | (simp only [nr, nl]; omega)) zz) fun v6x4 => ?_
  refine oa rfl (on (a_row 6 (es' := (l6 ++ [([(1, 1 + pickV b (p6 + 1) 4)], 1)]).map dC) rfl (by rw [List.map_append]; rfl) ?_))
  refine ar (om rfl (qqa (j_neg rfl zz zz) (qqa (qjp (parts := [(0, .const (.int .i64 1)), (1, .tmp 21)]) str135 qjx rfl rfl) ?_)))
  refine qqv (fun ver => qqh (parts := [(0, .tmp 22)]) (es := [[_, _]]) qzc qjx rfl rfl (by decide) (by decide) rfl rfl (by simp) rfl) fun v23x5 => ?_
  refine op_freezeK 23 ⟨⟨_, _, rfl⟩, trivial⟩ rfl rfl rfl ?_
  refine qqa (qjp (parts := [(0, .tmp 23), (1, .const (.int .i64 1))]) str69 qjm rfl rfl) ?_
  refine qqv (fun ver => qqh (parts := [(0, .tmp 24)]) (es := [[_, _]]) qj7 qjm rfl rfl (by decide) (by decide) rfl rfl (by simp) rfl) fun v25x6 => ?_
  refine om rfl (qqv (fun ver => qqs qj7 qjm rfl rfl rfl rfl rfl (all_lf_dC _) (by rw [qqu]; first | omega | (simp only [nr, nl]; omega)) zz) fun v25x7 => ?_)
  refine oa rfl (on (rs (om rfl (oa rfl (on (qqx ?_))))))
  exact ⟨[.own 25 v25x7], .own 1 0, [.box 151 [.sl _, .p _]], [.row 69 2 _], [(25, v25x7)], ⟨rfl, trivial⟩, rfl, rfl, ⟨⟨rfl, rfl⟩, ⟨rfl, rfl⟩, trivial⟩, rfl, rfl, ⟨(([(1, -(1 + pickV b (p6 + 1) 4))], 1) :: (l6 ++ [([(1, 1 + pickV b (p6 + 1) 4)], 1)]), p6 + 2), ⟨okP_closed ho6, by dsimp only; omega, by dsimp only; omega⟩, rfl, rfl, by rw [List.map_cons]; rfl⟩⟩
 have h1r := h1
 try simp only [nq, nr, nl] at h1
 refine qqo (rs (om rfl (oa rfl (on (qqx ?_)))))
 exact ⟨[.own 6 v6x1], .own 1 0, [.box 151 [.sl _, .p _]], [.row 69 2 _], [(6, v6x1)], ⟨rfl, trivial⟩, rfl, rfl, ⟨⟨rfl, rfl⟩, ⟨rfl, rfl⟩, trivial⟩, rfl, rfl, ⟨(l6, p6 + 1), ⟨okP_mono ho6 (by decide) (by decide), by dsimp only; omega, by dsimp only; omega⟩, rfl, rfl, rfl⟩⟩
theorem f_l12Draw (b : List Int) (p : Nat) (hb : okB b) (hp : p ≤ 1099511620000) : Fn Tryz.prog 80 [.ptr 0 0 0] [.box 151 [.sl (b.map dU), .p (.int .i64 ((p : Nat) : Int))]] (fun rr ii nn => ∃ x : List Int × Nat, (x.1.length ≤ 6 ∧ p ≤ x.2 ∧ x.2 ≤ p + 10) ∧ rr = .sl (x.1.map dI) ∧ ii = [.box 151 [.sl (b.map dU), .p (.int .i64 ((x.2 : Nat) : Int))]] ∧ nn = []) := by
 refine qjl Tryz.func80 rfl (nb rfl) fun w X g => ?_
 show AWp _ _ _ ⟨[(0, .ptr 0 0 0)], [(0, some (0, .box 151 [.sl (b.map dU), .p (.int .i64 ((p : Nat) : Int))]))]⟩
 refine rs (oa rfl (on (rs (qqv (fun ver => qzh qjb elt3 rfl rfl (by decide)) fun v5x1 => ?_))))
 refine oa rfl (on (qqf (rs (oa rfl (on (qqk (qq4 (ι := List Int × Nat × Nat × Nat) (fun x => x.2.1 ≤ 5 ∧ x.1.length ≤ 3 ∧ x.2.2.1 = p + x.2.1) (fun x r => (4, .p (.int .i64 ((x.2.1 : Nat) + 1))) :: (3, .own 5 x.2.2.2) :: r) (fun x r => (0, some (0, .box 151 [.sl (b.map dU), .p (.int .i64 ((x.2.2.1 : Nat) : Int))])) :: (5, some (x.2.2.2, .row 3 1 (x.1.map dI))) :: r) (fun x => 5 - x.2.1) (fun _ _ => rfl) (fun _ _ => rfl) ([], 0, p, v5x1) (by first | exact ⟨Nat.zero_le _, Nat.zero_le _, rfl⟩ | (dsimp only; exact ⟨Nat.zero_le _, Nat.zero_le _, rfl⟩)) ⟨⟨rfl, rfl⟩, ⟨rfl, rfl, trivial⟩, ⟨rfl, rfl, trivial⟩, ⟨rfl, rfl⟩, ⟨rfl, rfl⟩⟩ ?_)))))))
 rintro ⟨l, k, q, v⟩ hpre; dsimp only at hpre ⊢
 refine qqf (rs (om rfl (qqa (j_le rfl rfl) (on (ac rfl (fun h1 => ?_) fun h1 => ?_)))))
 ·
  have h1r := h1
  try simp only [nq, nr, nl] at h1
  refine qqo (qqf (qqk (rs (om rfl ?_))))
  refine qq0 (qqn (v := .p _) (hp1 := [(0, some (0, .box 151 [.sl _, .p _]))]) [(0, 0)] false [0] ent67 (f_pick b q 2 hb (by omega)) ⟨.inl ⟨rfl, rfl⟩, .inl ⟨rfl, rfl⟩, trivial⟩ ⟨⟨rfl, rfl⟩, trivial⟩ rfl rfl (fun h => by cases h) rfl (List.all_eq_true.1 rfl) (.inl rfl) rfl rfl) ?_
  refine qqa (qz5 rfl rfl) (om rfl (qqz 13 rfl (fun h2 => ?_) (fun h2 => ?_)))
  ·
   have h2r := h2
   try simp only [nq, nr, nl] at h2
   refine qqa (qqd rfl rfl h2r (qqj (evo rfl))) (qqa (qqd rfl rfl h2r (qja Tryz.underlying23 rfl rfl)) (qqa (qqd rfl rfl h2r (qzt rfl rfl)) (qqa (qqr rfl h2r (evo rfl)) (on (ac rfl (fun h3 => ?_) fun h3 => ?_)))))
   ·
    have h3r := h3
    try simp only [nq, nr, nl] at h3
    refine ar (om rfl (om rfl (qqv (fun ver => qqh (parts := [(0, .tmp 19)]) (es := [[_]]) qjb elt3 rfl rfl (by decide) (by decide) rfl rfl (by simp) rfl) fun v20x2 => ?_)))
    refine qqv (fun ver => qqs qjb elt3 rfl rfl rfl rfl rfl rfl (by rw [qqu]; first | omega | (simp only [nr, nl]; omega)) zz) fun v5x3 => ?_
    refine oa rfl (on (ar (om rfl (qqa (qjh rfl rfl zz zz) (oa rfl (on ?_))))))
    exact ⟨(l ++ [(k : Int) + 1], k + 1, q + 1, v5x3), (by first | exact ⟨by first | omega | (simp only [nr, nl]; omega), by first | omega | (simp only [nr, nl]; omega), by first | omega | (simp only [nr, nl]; omega)⟩ | (dsimp only; exact ⟨by first | omega | (simp only [nr, nl]; omega), by first | omega | (simp only [nr, nl]; omega), by first | omega | (simp only [nr, nl]; omega)⟩)), ⟨⟨rfl, rfl⟩, ⟨rfl, rfl, trivial⟩, ⟨rfl, qj0 (by rw [List.map_append]; rfl), trivial⟩, ⟨rfl, rfl⟩, ⟨rfl, rfl⟩⟩, (by first | exact zz | (dsimp only; exact zz))⟩
   have h3r := h3
   try simp only [nq, nr, nl] at h3
   refine qqo (ar (om rfl (qqa (qjh rfl rfl zz zz) (oa rfl (on ?_)))))
   exact ⟨(l, k + 1, q + 1, v), (by first | exact ⟨by first | omega | (simp only [nr, nl]; omega), by first | omega | (simp only [nr, nl]; omega), by first | omega | (simp only [nr, nl]; omega)⟩ | (dsimp only; exact ⟨by first | omega | (simp only [nr, nl]; omega), by first | omega | (simp only [nr, nl]; omega), by first | omega | (simp only [nr, nl]; omega)⟩)), ⟨⟨rfl, rfl⟩, ⟨rfl, rfl, trivial⟩, ⟨rfl, rfl, trivial⟩, ⟨rfl, rfl⟩, ⟨rfl, rfl⟩⟩, (by first | exact zz | (dsimp only; exact zz))⟩
  have h2r := h2
  try simp only [nq, nr, nl] at h2
  refine qqa (qqb rfl rfl h2r) (qqa (qqb rfl rfl h2r) (qqa (qqb rfl rfl h2r) (qqa (qqy rfl h2r (evo rfl)) (on (a_ff rfl ?_)))))
  refine qqo (ar (om rfl (qqa (qjh rfl rfl zz zz) (oa rfl (on ?_)))))
  exact ⟨(l, k + 1, q + 1, v), (by first | exact ⟨by first | omega | (simp only [nr, nl]; omega), by first | omega | (simp only [nr, nl]; omega), by first | omega | (simp only [nr, nl]; omega)⟩ | (dsimp only; exact ⟨by first | omega | (simp only [nr, nl]; omega), by first | omega | (simp only [nr, nl]; omega), by first | omega | (simp only [nr, nl]; omega)⟩)), ⟨⟨rfl, rfl⟩, ⟨rfl, rfl, trivial⟩, ⟨rfl, rfl, trivial⟩, ⟨rfl, rfl⟩, ⟨rfl, rfl⟩⟩, (by first | exact zz | (dsimp only; exact zz))⟩
 have h1r := h1
 try simp only [nq, nr, nl] at h1
 refine qjf (qqf (rs (om rfl ?_)))
 refine qq0 (qqn (v := .p _) (hp1 := [(0, some (0, .box 151 [.sl _, .p _]))]) [(0, 0)] false [0] ent67 (f_pick b q 30 hb (by omega)) ⟨.inl ⟨rfl, rfl⟩, .inl ⟨rfl, rfl⟩, trivial⟩ ⟨⟨rfl, rfl⟩, trivial⟩ rfl rfl (fun h => by cases h) rfl (List.all_eq_true.1 rfl) (.inl rfl) rfl rfl) ?_
 refine on (qqk (rs (qqa (qz5 rfl rfl) (oa rfl (on (ac rfl (fun h4 => ?_) fun h4 => ?_))))))
 ·
  have h4r := h4
  try simp only [nq, nr, nl] at h4
  refine ar (om rfl (om rfl (qqv (fun ver => qqh (parts := [(0, .const (.int .i64 1)), (1, .const (.int .i64 13)), (2, .const (.int .i64 0)), (3, .const (.int .i64 (-2)))]) (es := [[_], [_], [_], [_]]) qjb elt3 rfl rfl (by decide) (by decide) rfl rfl (by simp) rfl) fun v28x4 => ?_)))
  refine qq0 (qqn (v := .p _) (hp1 := [(0, some (0, .box 151 [.sl _, .p _])), (28, some (v28x4, .row 3 1 _))]) [(0, 0), (28, v28x4)] false [0, 28] ent130 (f_num b (q + 1) [1, 13, 0, -2] hb (by omega) (by decide) (by decide)) ⟨.inl ⟨rfl, rfl⟩, .inl ⟨rfl, rfl⟩, trivial⟩ ⟨⟨rfl, rfl⟩, ⟨rfl, rfl⟩, trivial⟩ rfl rfl (fun h => by cases h) rfl (List.all_eq_true.1 rfl) (.inl rfl) rfl rfl) ?_
  refine qqv (fun ver => qqh (parts := [(0, .tmp 29)]) (es := [[_]]) qjb elt3 rfl rfl (by decide) (by decide) rfl rfl (by simp) rfl) fun v30x5 => ?_
  refine qqv (fun ver => qqs qjb elt3 rfl rfl rfl rfl rfl rfl (by rw [qqu]; first | omega | (simp only [nr, nl]; omega)) zz) fun v5x6 => ?_
  refine oa rfl (on (rs (om rfl (oa rfl (on (a_freezeK 2 ⟨⟨_, _, rfl⟩, trivial⟩ rfl rfl rfl ?_))))))
  refine qqx ?_
  exact ⟨[.sl _], .sl _, [.box 151 [.sl _, .p _]], [], [], ⟨rfl, trivial⟩, rfl, rfl, ⟨⟨rfl, rfl⟩, trivial⟩, rfl, rfl, ⟨(l ++ [ofV b (q + 1) [1, 13, 0, -2]], q + 2), ⟨zz, by dsimp only; omega, by dsimp only; omega⟩, slEq (by first | rfl | (rw [List.map_append]; rfl)), rfl, rfl⟩⟩
 have h4r := h4
 try simp only [nq, nr, nl] at h4
 refine rs (qqa (qz5 rfl rfl) (oa rfl (on (ac rfl (fun h5 => ?_) fun h5 => ?_))))
 ·
  have h5r := h5
  try simp only [nq, nr, nl] at h5
  refine ar (qqv (fun ver => qqh (parts := [(0, .const (.int .i64 1)), (1, .const (.int .i64 2)), (2, .const (.int .i64 3)), (3, .const (.int .i64 4)), (4, .const (.int .i64 5))]) (es := [[_], [_], [_], [_], [_]]) qjb elt3 rfl rfl (by decide) (by decide) rfl rfl (by simp) rfl) fun v34x7 => ?_)
  refine oa rfl (on (rs (om rfl (oa rfl (on (a_freezeK 2 ⟨⟨_, _, rfl⟩, trivial⟩ rfl rfl rfl ?_))))))
  refine qqx ?_
  exact ⟨[.sl _], .sl _, [.box 151 [.sl _, .p _]], [], [], ⟨rfl, trivial⟩, rfl, rfl, ⟨⟨rfl, rfl⟩, trivial⟩, rfl, rfl, ⟨([1, 2, 3, 4, 5], q + 1), ⟨zz, by dsimp only; omega, by dsimp only; omega⟩, slEq (by first | rfl | (rw [List.map_append]; rfl)), rfl, rfl⟩⟩
 have h5r := h5
 try simp only [nq, nr, nl] at h5
 refine rs (qqa (qz5 rfl rfl) (oa rfl (on (ac rfl (fun h6 => ?_) fun h6 => ?_))))
 ·
  have h6r := h6
  try simp only [nq, nr, nl] at h6
  refine ar (qqv (fun ver => qqh (parts := [(0, .const (.int .i64 2)), (1, .const (.int .i64 4)), (2, .const (.int .i64 6)), (3, .const (.int .i64 12))]) (es := [[_], [_], [_], [_]]) qjb elt3 rfl rfl (by decide) (by decide) rfl rfl (by simp) rfl) fun v37x8 => ?_)
  refine oa rfl (on (rs (om rfl (oa rfl (on (a_freezeK 2 ⟨⟨_, _, rfl⟩, trivial⟩ rfl rfl rfl ?_))))))
  refine qqx ?_
  exact ⟨[.sl _], .sl _, [.box 151 [.sl _, .p _]], [], [], ⟨rfl, trivial⟩, rfl, rfl, ⟨⟨rfl, rfl⟩, trivial⟩, rfl, rfl, ⟨([2, 4, 6, 12], q + 1), ⟨zz, by dsimp only; omega, by dsimp only; omega⟩, slEq (by first | rfl | (rw [List.map_append]; rfl)), rfl, rfl⟩⟩
 have h6r := h6
 try simp only [nq, nr, nl] at h6
 refine qqo (rs (om rfl (oa rfl (on (a_freezeK 2 ⟨⟨_, _, rfl⟩, trivial⟩ rfl rfl rfl ?_)))))
 refine qqx ?_
 exact ⟨[.sl _], .sl _, [.box 151 [.sl _, .p _]], [], [], ⟨rfl, trivial⟩, rfl, rfl, ⟨⟨rfl, rfl⟩, trivial⟩, rfl, rfl, ⟨(l, q + 1), ⟨zz, by dsimp only; omega, by dsimp only; omega⟩, slEq (by first | rfl | (rw [List.map_append]; rfl)), rfl, rfl⟩⟩
theorem f_dSC (b : List Int) (hb : ∀ a ∈ b, 0 ≤ a ∧ a ≤ 255) : Fn Tryz.prog 30 [.sl (b.map dU)] [] (fun rr ii nn => ∃ x : List Con × List Int × Int, (okP x.1 17 15 ∧ x.2.1.length ≤ 6 ∧ -20 ≤ x.2.2 ∧ x.2.2 ≤ 3000) ∧ rr = .tup [.sl (x.1.map dC), .sl (x.2.1.map dI), .p (.int .i64 x.2.2)] ∧ ii = [] ∧ nn = []) := by
 refine qjl Tryz.func30 rfl (nb rfl) fun w X g => ?_
 show AWp _ _ _ ⟨[(0, .sl (b.map dU))], []⟩
 refine rs (oa rfl (oa rfl (oa rfl (on (rs (om rfl ?_))))))
 refine qz0 (fun ver => qza (v := .ptr 9 ver 0) (hp1 := [(9, some (ver, .box 151 [.sl _, .p _]))]) [] false [] ent63 (f_open _) ⟨.inl ⟨rfl, rfl⟩, trivial⟩ trivial rfl rfl rfl (fun h => by cases h) rfl (List.all_eq_true.1 rfl) (.inl rfl) rfl rfl) fun v9x1 => ?_
 refine oa rfl (on (qqf ?_))
 have hbt := okB_take (Nat.le_refl _) hb
 refine ar (om rfl (om rfl (op_callE1 (v := fun x ver => .own 12 ver) (hp1 := fun x ver => [(9, some (v9x1, .box 151 [.sl _, .p _])), (12, some (ver, .row 69 2 _))]) [(9, v9x1)] false ent79 (f_l11Closed (b.take 2000) 0 hbt (by decide)) ⟨.inl ⟨rfl, rfl⟩, trivial⟩ ⟨⟨rfl, rfl⟩, trivial⟩ rfl rfl (fun _ => rfl) (fun _ => rfl) (.inl rfl) (fun _ _ => rfl) (fun _ _ => rfl) ?_)))
 rintro ⟨l12, p12⟩ ⟨ho12, hp12⟩ v12x2
 try dsimp only at ho12
 try dsimp only at hp12
 dsimp only [List.cons_append, List.nil_append]
 refine op_freezeK 12 trivial rfl rfl rfl ?_
 refine op_callE (v := fun x => .sl _) (hp1 := fun x => [(9, some (v9x1, .box 151 [.sl _, .p _]))]) [(9, v9x1)] false ent64 (f_l3Mut (b.take 2000) p12 l12 16 12 hbt (by omega) ho12 (by decide) (by decide)) ⟨.inl ⟨rfl, rfl⟩, .inl ⟨rfl, rfl⟩, trivial⟩ ⟨⟨rfl, rfl⟩, trivial⟩ rfl (fun _ => rfl) (fun _ => rfl) (.inl rfl) (fun _ => rfl) (fun _ => rfl) ?_
 rintro ⟨l13, p13⟩ ⟨ho13, hl13, hp13⟩
 try dsimp only at ho13
 try dsimp only at hl13
 try dsimp only at hp13
 dsimp only [List.cons_append, List.nil_append]
 refine oa rfl (on (rs (om rfl (op_callE (v := fun x => .sl _) (hp1 := fun x => [(9, some (v9x1, .box 151 [.sl _, .p _]))]) [(9, v9x1)] false ent80 (f_l12Draw (b.take 2000) p13 hbt (by omega)) ⟨.inl ⟨rfl, rfl⟩, trivial⟩ ⟨⟨rfl, rfl⟩, trivial⟩ rfl (fun _ => rfl) (fun _ => rfl) (.inl rfl) (fun _ => rfl) (fun _ => rfl) ?_))))
 rintro ⟨vs15, p15⟩ ⟨hl15, hp15⟩
 try dsimp only at hl15
 try dsimp only at hp15
 dsimp only [List.cons_append, List.nil_append]
 refine oa rfl (on (rs (om rfl (om rfl (om rfl ?_)))))
 refine qq0 (qqn (v := .p _) (hp1 := [(9, some (v9x1, .box 151 [.sl _, .p _]))]) [(9, v9x1)] false [9] ent72 (f_l5Fuel (b.take 2000) p15 hbt (by omega)) ⟨.inl ⟨rfl, rfl⟩, trivial⟩ ⟨⟨rfl, rfl⟩, trivial⟩ rfl rfl (fun h => by cases h) rfl (List.all_eq_true.1 rfl) (.inl rfl) rfl rfl) ?_
 refine oa rfl (oa rfl (oa rfl (on (qqx ?_))))
 exact ⟨[.sl _, .sl _, .p _], .tup [.sl _, .sl _, .p _], [], [], [], ⟨rfl, rfl, rfl, trivial⟩, rfl, rfl, trivial, rfl, rfl, ⟨(l13, vs15, ofV (b.take 2000) p15 ([200, 100, 300, 2, 5, 0, 1, -1, 2001] : List Int)), ⟨okP_mono ho13 (by decide) (by decide), by dsimp only; omega, ofV_in (l := [200, 100, 300, 2, 5, 0, 1, -1, 2001]) (lo := -20) (hi := 3000) (by decide) (by decide)⟩, rfl, rfl, rfl⟩⟩
theorem f_lawSC (b1 : List Int) (hb1 : ∀ a ∈ b1, 0 ≤ a ∧ a ≤ 255) : Fn Tryz.prog 6 [.sl (b1.map dU)] [] (fun rr ii nn => rr = .p (.bool true) ∧ ii = [] ∧ nn = []) := by
 refine qjl Tryz.func6 rfl (nb rfl) fun w X g => ?_
 show AWp _ _ _ ⟨[(0, .sl (b1.map dU))], []⟩
 refine rs (oa rfl (on (qqf (rs (om rfl (qqa (qqw Tryz.underlying41 rfl) (qqa (j_gt rfl rfl) (on (ac rfl (fun h1 => ?_) fun h1 => ?_)))))))))
 ·
  have h1r := h1
  try simp only [nq, nr] at h1
  refine rs (oa rfl (on (qqx ?_)))
  exact qjt rfl ⟨rfl, rfl, rfl⟩
 have h1r := h1
 try simp only [nq, nr] at h1
 refine qqo (rs (om rfl (op_callE (v := fun x => .tup [.sl _, .sl _, .p _]) (hp1 := fun x => []) [] false ent30 (f_dSC b1 hb1) ⟨.inl ⟨rfl, rfl⟩, trivial⟩ trivial rfl (fun _ => rfl) (fun _ => rfl) (.inl rfl) (fun _ => rfl) (fun _ => rfl) ?_)))
 rintro ⟨l17, vs17, fu17⟩ ⟨ho17, hv17, hf17⟩
 try dsimp only at ho17
 try dsimp only at hv17
 try dsimp only at hf17
 dsimp only [List.cons_append, List.nil_append]
 refine om rfl (qqa (qqt rfl rfl) (qqa (qqt rfl rfl) (qqa (qqt rfl rfl) (oa rfl (oa rfl (oa rfl (on (rs (om rfl (om rfl (om rfl ?_)))))))))))
 refine qq0 (qqn (v := .tup [.p _, .sl _, .sl _]) (hp1 := []) [] false [] ent31 (f_scImpl l17 vs17 fu17) ⟨.inl ⟨rfl, rfl⟩, .inl ⟨rfl, rfl⟩, .inl ⟨rfl, rfl⟩, trivial⟩ trivial rfl rfl (fun h => by cases h) rfl (fun _ h => by cases h) (.inl rfl) rfl rfl) ?_
 refine om rfl (qqa (qqt rfl rfl) (qqa (qqt rfl rfl) (qqa (qqt rfl rfl) (oa rfl (oa rfl (oa rfl (on (rs (om rfl (om rfl (om rfl ?_)))))))))))
 refine qq0 (qqn (v := .tup [.p _, .sl _, .sl _]) (hp1 := []) [] false [] ent32 (f_scSpec l17 vs17 fu17) ⟨.inl ⟨rfl, rfl⟩, .inl ⟨rfl, rfl⟩, .inl ⟨rfl, rfl⟩, trivial⟩ trivial rfl rfl (fun h => by cases h) rfl (fun _ h => by cases h) (.inl rfl) rfl rfl) ?_
 refine om rfl (qqa (qqt rfl rfl) (qqa (qqt rfl rfl) (qqa (qqt rfl rfl) (oa rfl (oa rfl (oa rfl (on (qqf (rs (om rfl (om rfl (qqa (j_ne rfl rfl) (om rfl (qqz 40 rfl (fun h2 => ?_) (fun h2 => ?_)))))))))))))))
 ·
  have h2r := h2
  try simp only [nq, nr] at h2
  exact absurd h2r (by simp)
 have h2r := h2
 try simp only [nq, nr] at h2
 refine qqa (qqd rfl rfl h2r (qqj (evo rfl))) (qqa (qqd rfl rfl h2r (qqj (evo rfl))) ?_)
 refine qq0 (qqd rfl rfl h2r (qqn (v := .p _) (hp1 := []) [] false [] ent33 (f_cpBools (scR l17 vs17 fu17).2.1 (scR l17 vs17 fu17).2.1) ⟨.inl ⟨rfl, rfl⟩, .inl ⟨rfl, rfl⟩, trivial⟩ trivial rfl rfl (fun h => by cases h) rfl (fun _ h => by cases h) (.inl rfl) rfl rfl)) ?_
 refine qqa (qqd rfl rfl h2r (qzk rfl)) (qqa (qqy rfl h2r (evo rfl)) (om rfl (qqz 46 rfl (fun h3 => ?_) (fun h3 => ?_))))
 ·
  have h3r := h3
  try simp only [nq, nr] at h3
  exact absurd h3r (by simp)
 have h3r := h3
 try simp only [nq, nr] at h3
 refine qqa (qqd rfl rfl h3r (qqj (evo rfl))) (qqa (qqd rfl rfl h3r (qqj (evo rfl))) ?_)
 refine qq0 (qqd rfl rfl h3r (qqn (v := .p _) (hp1 := []) [] false [] ent29 (f_psame ((scR l17 vs17 fu17).2.2.map rupS) ((scR l17 vs17 fu17).2.2.map rupS)) ⟨.inl ⟨rfl, rfl⟩, .inl ⟨rfl, rfl⟩, trivial⟩ trivial rfl rfl (fun h => by cases h) rfl (fun _ h => by cases h) (.inl rfl) rfl rfl)) ?_
 refine qqa (qqd rfl rfl h3r (qzk rfl)) (qqa (qqy rfl h3r (evo rfl)) (on (ac rfl (fun h4 => ?_) fun h4 => ?_)))
 ·
  have h4r := h4
  try simp only [nq, nr] at h4
  exact absurd h4r (by simp)
 have h4r := h4
 try simp only [nq, nr] at h4
 refine qqo (qqf (rs (om rfl (on (qqk (rs (qqa (qz5 rfl rfl) (oa rfl (on (ac rfl (fun h5 => ?_) fun h5 => ?_))))))))))
 ·
  have h5r := h5
  try simp only [nq, nr] at h5
  refine qqf ?_
  have hs := sc_sat (by assumption)
  refine ar (om rfl (om rfl ?_))
  refine qq0 (qqn (v := .p _) (hp1 := []) [] false [] ent23 (f_sa l17 (scR l17 vs17 fu17).2.1) ⟨.inl ⟨rfl, rfl⟩, .inl ⟨rfl, rfl⟩, trivial⟩ trivial rfl rfl (fun h => by cases h) rfl (fun _ h => by cases h) (.inl rfl) rfl rfl) ?_
  refine oa rfl (on (qqx ?_))
  exact qjt rfl ⟨qje hs, rfl, rfl⟩
 have h5r := h5
 try simp only [nq, nr] at h5
 refine rs (qqa (qz5 rfl rfl) (oa rfl (on (ac rfl (fun h6 => ?_) fun h6 => ?_))))
 ·
  have h6r := h6
  try simp only [nq, nr] at h6
  refine qqf ?_
  have hu := sc_uns (by assumption)
  refine ar (om rfl ?_)
  refine qq0 (qqn (v := .p _) (hp1 := []) [] false [] ent34 (f_csImpl l17) ⟨.inl ⟨rfl, rfl⟩, trivial⟩ trivial rfl rfl (fun h => by cases h) rfl (fun _ h => by cases h) (.inl rfl) rfl rfl) ?_
  refine qqa (qz5 rfl rfl) (om rfl (qqz 63 rfl (fun h7 => ?_) (fun h7 => ?_)))
  ·
   have h7r := h7
   try simp only [nq, nr] at h7
   refine qqa (qqd rfl rfl h7r (qqj (evo rfl))) (qqa (qqd rfl rfl h7r (qqj (evo rfl))) ?_)
   refine qq0 (qqd rfl rfl h7r (qqn (v := .p _) (hp1 := []) [] false [] ent35 (f_crImpl l17 ((scR l17 vs17 fu17).2.2.map rupS)) ⟨.inl ⟨rfl, rfl⟩, .inl ⟨rfl, rfl⟩, trivial⟩ trivial rfl rfl (fun h => by cases h) rfl (fun _ h => by cases h) (.inl rfl) rfl rfl)) ?_
   refine qqa (qqr rfl h7r (evo rfl)) (oa rfl (on (qqx ?_)))
   exact qjt rfl ⟨qje hu.2, rfl, rfl⟩
  have h7r := h7
  try simp only [nq, nr] at h7
  exact absurd h7r (by rw [hu.1]; decide)
 have h6r := h6
 try simp only [nq, nr] at h6
 refine qqo (qqf ?_)
 have hn := sc_non (by assumption) (by assumption)
 refine ar (om rfl (qqa (qqw Tryz.underlying44 rfl) (qqa (qz5 rfl rfl) (om rfl (qqz 71 rfl (fun h8 => ?_) (fun h8 => ?_))))))
 ·
  have h8r := h8
  try simp only [nq, nr] at h8
  refine qqa (qqd rfl rfl h8r (qqj (evo rfl))) (qqa (qqd rfl rfl h8r (qqw Tryz.underlying34 rfl)) (qqa (qqd rfl rfl h8r (qz5 rfl rfl)) (qqa (qqr rfl h8r (evo rfl)) (oa rfl (on (qqx ?_))))))
  exact qjt rfl ⟨qje (by rw [hn.2]; rfl), rfl, rfl⟩
 have h8r := h8
 try simp only [nq, nr] at h8
 exact absurd h8r (by rw [hn.1]; decide)
end Go.Ab

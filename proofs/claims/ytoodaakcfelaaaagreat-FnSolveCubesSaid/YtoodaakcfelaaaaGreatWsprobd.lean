/- Walks. -/
import Derived.Test.YtoodaakcfelaaaaGreatBase
import Derived.Test.YtoodaakcfelaaaaGreatSimp
import Derived.Test.YtoodaakcfelaaaaGreatWsdrawd
namespace Go.Ab
open Go.Proofs
set_option maxRecDepth 100000
set_option maxHeartbeats 8000000
set_option linter.unusedSimpArgs false
set_option linter.unusedVariables false
theorem f_l3Prob (b : List Int) (p : Nat) (hb : okB b) (hp : p ≤ 1099509000000) : Fn Tryz.prog 129 [.ptr 0 0 0] [.box 151 [.sl (b.map dU), .p (.int .i64 ((p : Nat) : Int))]] (fun rr ii nn => ∃ x : List Con × Nat, (okP x.1 8 12 ∧ p ≤ x.2 ∧ x.2 ≤ p + 350) ∧ rr = .own 1 0 ∧ ii = [.box 151 [.sl (b.map dU), .p (.int .i64 ((x.2 : Nat) : Int))]] ∧ nn = [.row 69 2 (x.1.map dC)]) := by
 refine qjl Tryz.func129 rfl (nb rfl) fun w X g => ?_
 show AWp _ _ _ ⟨[(0, .ptr 0 0 0)], [(0, some (0, .box 151 [.sl (b.map dU), .p (.int .i64 ((p : Nat) : Int))]))]⟩
 have hm : (0 : Int) ≤ ofV b (p) ([4, 5, 3, 6] : List Int) ∧ ofV b (p) ([4, 5, 3, 6] : List Int) ≤ 12 := ofV_in (l := [4, 5, 3, 6]) (lo := 0) (hi := 12) (by decide) (by decide)
 have hn : (0 : Int) ≤ ofV b (p + 1) ([4, 6, 3, 8, 2, 1, 0] : List Int) ∧ ofV b (p + 1) ([4, 6, 3, 8, 2, 1, 0] : List Int) ≤ 8 := ofV_in (l := [4, 6, 3, 8, 2, 1, 0]) (lo := 0) (hi := 8) (by decide) (by decide)
 refine rs (oa rfl (on (rs (qqv (fun ver => qzh qj7 qjm rfl rfl (by decide)) fun v6x1 => ?_))))
 refine oa rfl (on (rs (om rfl (qqv (fun ver => qqh (parts := [(0, .const (.int .i64 4)), (1, .const (.int .i64 5)), (2, .const (.int .i64 3)), (3, .const (.int .i64 6))]) (es := [[_], [_], [_], [_]]) qjb elt3 rfl rfl (by decide) (by decide) rfl rfl (by simp) rfl) fun v8x2 => ?_))))
 refine qq0 (qqn (v := .p _) (hp1 := [(0, some (0, .box 151 [.sl _, .p _])), (8, some (v8x2, .row 3 1 _))]) [(0, 0), (8, v8x2)] false [0, 8] ent130 (f_num b (p) [4, 5, 3, 6] hb (by omega) (by decide) (by decide)) ⟨.inl ⟨rfl, rfl⟩, .inl ⟨rfl, rfl⟩, trivial⟩ ⟨⟨rfl, rfl⟩, ⟨rfl, rfl⟩, trivial⟩ rfl rfl (fun h => by cases h) rfl (List.all_eq_true.1 rfl) (.inl rfl) rfl rfl) ?_
 refine oa rfl (on (qqf (rs (om rfl (qqv (fun ver => qqh (parts := [(0, .const (.int .i64 4)), (1, .const (.int .i64 6)), (2, .const (.int .i64 3)), (3, .const (.int .i64 8)), (4, .const (.int .i64 2)), (5, .const (.int .i64 1)), (6, .const (.int .i64 0))]) (es := [[_], [_], [_], [_], [_], [_], [_]]) qjb elt3 rfl rfl (by decide) (by decide) rfl rfl (by simp) rfl) fun v11x3 => ?_)))))
 refine qq0 (qqn (v := .p _) (hp1 := [(0, some (0, .box 151 [.sl _, .p _])), (11, some (v11x3, .row 3 1 _))]) [(0, 0), (11, v11x3)] false [0, 11] ent130 (f_num b (p + 1) [4, 6, 3, 8, 2, 1, 0] hb (by omega) (by decide) (by decide)) ⟨.inl ⟨rfl, rfl⟩, .inl ⟨rfl, rfl⟩, trivial⟩ ⟨⟨rfl, rfl⟩, ⟨rfl, rfl⟩, trivial⟩ rfl rfl (fun h => by cases h) rfl (List.all_eq_true.1 rfl) (.inl rfl) rfl rfl) ?_
 refine oa rfl (on (qqk ?_))
 refine qq4 (ι := List Con × Nat × Nat × Nat) (fun x => okP x.1 x.2.1 12 ∧ x.2.1 ≤ 8 ∧ (x.2.1 : Int) ≤ ofV b (p + 1) ([4, 6, 3, 8, 2, 1, 0] : List Int) ∧ p + 2 ≤ x.2.2.1 ∧ x.2.2.1 ≤ p + 2 + 40 * x.2.1) (fun x r => (5, .p (.int .i64 (ofV b (p + 1) ([4, 6, 3, 8, 2, 1, 0] : List Int) - (x.2.1 : Nat)))) :: (3, .own 6 x.2.2.2) :: r) (fun x r => (0, some (0, .box 151 [.sl (b.map dU), .p (.int .i64 ((x.2.2.1 : Nat) : Int))])) :: (6, some (x.2.2.2, .row 69 2 (x.1.map dC))) :: r) (fun x => 8 - x.2.1) (fun _ _ => rfl) (fun _ _ => rfl) ([], 0, p + 2, v6x1) (by first | exact ⟨okP_nil, by omega, by omega, by omega, by omega⟩ | (dsimp only; exact ⟨okP_nil, by omega, by omega, by omega, by omega⟩)) ⟨⟨rfl, rfl⟩, ⟨qz1 (by dsimp only; omega), rfl, trivial⟩, ⟨rfl, rfl, trivial⟩, ⟨rfl, rfl⟩, ⟨rfl, rfl⟩⟩ ?_
 rintro ⟨l, k, q, v⟩ hpre; dsimp only at hpre ⊢
 refine qqf (rs (om rfl (qqa (j_gt rfl rfl) (on (ac rfl (fun h1 => ?_) fun h1 => ?_)))))
 ·
  have h1r := h1
  try simp only [nq, nr, nl] at h1
  refine qqo (qqf (qqk ?_))
  have hlc := l1C_ok b q (ofV b p ([4, 5, 3, 6] : List Int)) hm
  have hol := hpre.1.1
  refine ar (om rfl (om rfl (om rfl ?_)))
  refine qz0 (fun ver => qza (v := .agg [.own 20 ver, .p _]) (hp1 := [(0, some (0, .box 151 [.sl _, .p _])), (20, some (ver, .row 135 2 _))]) [(0, 0)] false [0] ent131 (f_l1Draw b q (ofV b p ([4, 5, 3, 6] : List Int)) hb (by omega) hm) ⟨.inl ⟨rfl, rfl⟩, .inl ⟨rfl, rfl⟩, trivial⟩ ⟨⟨rfl, rfl⟩, trivial⟩ rfl rfl rfl (fun h => by cases h) rfl (List.all_eq_true.1 rfl) (.inl rfl) rfl rfl) fun v20x4 => ?_
  refine op_freezeaK 20 0 ⟨⟨_, _, rfl⟩, trivial⟩ rfl rfl rfl rfl ?_
  try dsimp only [List.set]
  refine qqv (fun ver => qqh (parts := [(0, .tmp 20)]) (es := [[_, _]]) qj7 qjm rfl rfl (by decide) (by decide) rfl rfl (by simp) rfl) fun v21x5 => ?_
  refine qqv (fun ver => qqs qj7 qjm rfl rfl rfl rfl rfl rfl (by rw [qqu]; first | omega | (simp only [nr, nl]; omega)) zz) fun v6x6 => ?_
  refine oa rfl (on (ar (om rfl (qqa (qzw rfl rfl zz zz) (oa rfl (on ?_))))))
  exact ⟨(l ++ [(l1C b q (ofV b p ([4, 5, 3, 6] : List Int))).1], k + 1, (l1C b q (ofV b p ([4, 5, 3, 6] : List Int))).2, v6x6), (by first | exact ⟨okP_snoc hpre.1 hlc.2.1, by omega, by omega, by omega, by omega⟩ | (dsimp only; exact ⟨okP_snoc hpre.1 hlc.2.1, by omega, by omega, by omega, by omega⟩)), ⟨⟨rfl, rfl⟩, ⟨qz1 (by dsimp only; omega), rfl, trivial⟩, ⟨rfl, qj0 (by rw [List.map_append]; rfl), trivial⟩, ⟨rfl, rfl⟩, ⟨rfl, rfl⟩⟩, (by first | exact zz | (dsimp only; exact zz))⟩
 have h1r := h1
 try simp only [nq, nr, nl] at h1
 refine qjf (rs (om rfl (oa rfl (on (qqx ?_)))))
 exact ⟨[.own 6 v], .own 1 0, [.box 151 [.sl _, .p _]], [.row 69 2 _], [(6, v)], ⟨rfl, trivial⟩, rfl, rfl, ⟨⟨rfl, rfl⟩, ⟨rfl, rfl⟩, trivial⟩, rfl, rfl, ⟨(l, q), ⟨okP_mono hpre.1 (by omega) (Nat.le_refl _), by dsimp only; omega, by dsimp only; omega⟩, rfl, rfl, rfl⟩⟩
theorem f_l3Mut (b : List Int) (p : Nat) (l : List Con) (n m : Nat) (hb : okB b) (hp : p ≤ 1099509500000) (ho : okP l n m) (hn : n ≤ 1000) (hm : m ≤ 1000) : Fn Tryz.prog 64 [.ptr 0 0 0, .sl (l.map dC)] [.box 151 [.sl (b.map dU), .p (.int .i64 ((p : Nat) : Int))]] (fun rr ii nn => ∃ x : List Con × Nat, (okP x.1 n (m + 3) ∧ x.1.length = l.length ∧ p ≤ x.2 ∧ x.2 ≤ p + 8) ∧ rr = .sl (x.1.map dC) ∧ ii = [.box 151 [.sl (b.map dU), .p (.int .i64 ((x.2 : Nat) : Int))]] ∧ nn = []) := by
 refine qjl Tryz.func64 rfl (nb rfl) fun w X g => ?_
 show AWp _ _ _ ⟨[(0, .ptr 0 0 0), (1, .sl (l.map dC))], [(0, some (0, .box 151 [.sl (b.map dU), .p (.int .i64 ((p : Nat) : Int))]))]⟩
 have hol := ho.1
 refine rs (oa rfl (on (rs (qqv (fun ver => qzh qj7 qjm rfl rfl (by decide)) fun v7x1 => ?_))))
 refine om rfl (qqv (fun ver => j_append_sl qj7 qjm rfl rfl rfl rfl len_dC (all_lf_dC _) (by rw [qqu]; first | omega | (simp only [nr, nl]; omega)) zz) fun v7x2 => ?_)
 refine oa rfl (on (qqf (rs (om rfl (qqa (qja Tryz.underlying30 rfl rfl) (qqa (j_gt rfl rfl) (om rfl (qqz 13 rfl (fun h1 => ?_) (fun h1 => ?_)))))))))
 ·
  have h1r := h1
  try simp only [nq, nr, nl] at h1
  refine qqa (qqd rfl rfl h1r (qqj (evo rfl))) ?_
  refine qq0 (qqd rfl rfl h1r (qqn (v := .p _) (hp1 := [(0, some (0, .box 151 [.sl _, .p _]))]) [(0, 0)] false [0] ent67 (f_pick _ _ _ (by assumption) (by omega)) ⟨.inl ⟨rfl, rfl⟩, .inl ⟨rfl, rfl⟩, trivial⟩ ⟨⟨rfl, rfl⟩, trivial⟩ rfl rfl (fun h => by cases h) rfl (List.all_eq_true.1 rfl) (.inl rfl) rfl rfl)) ?_
  refine qqa (qqd rfl rfl h1r (qz5 rfl rfl)) (qqa (qqr rfl h1r (evo rfl)) (on (ac rfl (fun h2 => ?_) fun h2 => ?_)))
  ·
   have h2r := h2
   try simp only [nq, nr, nl] at h2
   refine rs (om rfl (om rfl (qqa (qja Tryz.underlying30 rfl rfl) ?_)))
   refine qq0 (qqn (v := .p _) (hp1 := [(0, some (0, .box 151 [.sl _, .p _]))]) [(0, 0)] false [0] ent67 (f_pick _ _ _ (by assumption) (by omega)) ⟨.inl ⟨rfl, rfl⟩, .inl ⟨rfl, rfl⟩, trivial⟩ ⟨⟨rfl, rfl⟩, trivial⟩ rfl rfl (fun h => by cases h) rfl (List.all_eq_true.1 rfl) (.inl rfl) rfl rfl) ?_
   refine oa rfl (on ?_)
   have hk := pickV_lt (b := b) (p := p + 1) (n := (l.length : Nat)) (by omega)
   have hc0 := okP_at ho (k := (pickV b (p + 1) (l.length : Nat)).toNat) (by omega)
   generalize hcc : l.getD (pickV b (p + 1) (l.length : Nat)).toNat default = cc at hc0
   have hm1 := mutC_ok b (p + 2) cc
   have hm2 := mutC_ok b (mutC b (p + 2) cc).2 (mutC b (p + 2) cc).1
   have hm3 := mutC_ok b (mutC b (mutC b (p + 2) cc).2 (mutC b (p + 2) cc).1).2 (mutC b (mutC b (p + 2) cc).2 (mutC b (p + 2) cc).1).1
   subst hcc
   refine ar (om rfl (om rfl (om rfl (om rfl (om rfl (om rfl (om rfl (qqa (qq2 (n := (pickV b (p + 1) (l.length : Nat)).toNat) qj7 rfl rfl rfl zz zz) ?_))))))))
   refine qqa (qz6 (ys := [.sl _, .p _]) qq7 rfl rfl (qqq zz) rfl (Nat.le_refl _)) ?_
   refine qq0 (qqn (v := .agg [.sl _, .p _]) (hp1 := [(0, some (0, .box 151 [.sl _, .p _]))]) [(0, 0)] false [0] ent128 (f_l1Mutate b (p + 2) _ hb (by omega) (by omega)) ⟨.inl ⟨rfl, rfl⟩, .inl ⟨rfl, rfl⟩, trivial⟩ ⟨⟨rfl, rfl⟩, trivial⟩ rfl rfl (fun h => by cases h) rfl (List.all_eq_true.1 rfl) (.inl rfl) rfl rfl) ?_
   refine qq0 (qqn (v := .agg [.sl _, .p _]) (hp1 := [(0, some (0, .box 151 [.sl _, .p _]))]) [(0, 0)] false [0] ent128 (f_l1Mutate b _ _ hb (by omega) (by omega)) ⟨.inl ⟨rfl, rfl⟩, .inl ⟨rfl, rfl⟩, trivial⟩ ⟨⟨rfl, rfl⟩, trivial⟩ rfl rfl (fun h => by cases h) rfl (List.all_eq_true.1 rfl) (.inl rfl) rfl rfl) ?_
   refine qq0 (qqn (v := .agg [.sl _, .p _]) (hp1 := [(0, some (0, .box 151 [.sl _, .p _]))]) [(0, 0)] false [0] ent128 (f_l1Mutate b _ _ hb (by omega) (by omega)) ⟨.inl ⟨rfl, rfl⟩, .inl ⟨rfl, rfl⟩, trivial⟩ ⟨⟨rfl, rfl⟩, trivial⟩ rfl rfl (fun h => by cases h) rfl (List.all_eq_true.1 rfl) (.inl rfl) rfl rfl) ?_
   refine qqa (qq2 (n := (pickV b (p + 1) (l.length : Nat)).toNat) qj7 rfl rfl rfl zz zz) ?_
   refine qjg (j_storea_row qq7 rfl rfl zz rfl rfl rfl rfl) ?_
   refine on (rs (om rfl (oa rfl (on (a_freezeK 4 ⟨⟨_, _, rfl⟩, trivial⟩ rfl rfl rfl ?_)))))
   refine qqx ?_
   exact ⟨[.sl _], .sl _, [.box 151 [.sl _, .p _]], [], [], ⟨rfl, trivial⟩, rfl, rfl, ⟨⟨rfl, rfl⟩, trivial⟩, rfl, rfl, ⟨(l.set (pickV b (p + 1) (l.length : Nat)).toNat (mutC b (mutC b (mutC b (p + 2) (l.getD (pickV b (p + 1) (l.length : Nat)).toNat default)).2 (mutC b (p + 2) (l.getD (pickV b (p + 1) (l.length : Nat)).toNat default)).1).2 (mutC b (mutC b (p + 2) (l.getD (pickV b (p + 1) (l.length : Nat)).toNat default)).2 (mutC b (p + 2) (l.getD (pickV b (p + 1) (l.length : Nat)).toNat default)).1).1).1, (mutC b (mutC b (mutC b (p + 2) (l.getD (pickV b (p + 1) (l.length : Nat)).toNat default)).2 (mutC b (p + 2) (l.getD (pickV b (p + 1) (l.length : Nat)).toNat default)).1).2 (mutC b (mutC b (p + 2) (l.getD (pickV b (p + 1) (l.length : Nat)).toNat default)).2 (mutC b (p + 2) (l.getD (pickV b (p + 1) (l.length : Nat)).toNat default)).1).1).2), ⟨okP_set (okP_mono ho (Nat.le_refl _) (by omega)) (by omega), by dsimp only; rw [List.length_set], by dsimp only; omega, by dsimp only; omega⟩, slEq (by rw [List.map_set]; rfl), rfl, rfl⟩⟩
  have h2r := h2
  try simp only [nq, nr, nl] at h2
  refine qqo (rs (om rfl (oa rfl (on (a_freezeK 4 ⟨⟨_, _, rfl⟩, trivial⟩ rfl rfl rfl ?_)))))
  refine qqx ?_
  exact ⟨[.sl _], .sl _, [.box 151 [.sl _, .p _]], [], [], ⟨rfl, trivial⟩, rfl, rfl, ⟨⟨rfl, rfl⟩, trivial⟩, rfl, rfl, ⟨(l, _), ⟨okP_mono ho (Nat.le_refl _) (by omega), rfl, by dsimp only; omega, by dsimp only; omega⟩, rfl, rfl, rfl⟩⟩
 have h1r := h1
 try simp only [nq, nr, nl] at h1
 refine qqa (qqb rfl rfl h1r) (qqa (qqb rfl rfl h1r) (qqa (qqb rfl rfl h1r) (qqa (qqy rfl h1r (evo rfl)) (on (a_ff rfl ?_)))))
 refine qqo (rs (om rfl (oa rfl (on (a_freezeK 4 ⟨⟨_, _, rfl⟩, trivial⟩ rfl rfl rfl ?_)))))
 refine qqx ?_
 exact ⟨[.sl _], .sl _, [.box 151 [.sl _, .p _]], [], [], ⟨rfl, trivial⟩, rfl, rfl, ⟨⟨rfl, rfl⟩, trivial⟩, rfl, rfl, ⟨(l, p), ⟨okP_mono ho (Nat.le_refl _) (by omega), rfl, by dsimp only; omega, by dsimp only; omega⟩, rfl, rfl, rfl⟩⟩
theorem f_l5Hard (b : List Int) (p : Nat) (hb : okB b) (hp : p ≤ 1099508000000) : Fn Tryz.prog 65 [.ptr 0 0 0] [.box 151 [.sl (b.map dU), .p (.int .i64 ((p : Nat) : Int))]] (fun rr ii nn => ∃ x : List Con × Nat, (okP x.1 14 12 ∧ p ≤ x.2 ∧ x.2 ≤ p + 700) ∧ rr = .own 1 0 ∧ ii = [.box 151 [.sl (b.map dU), .p (.int .i64 ((x.2 : Nat) : Int))]] ∧ nn = [.row 69 2 (x.1.map dC)]) := by
 refine qjl Tryz.func65 rfl (nb rfl) fun w X g => ?_
 show AWp _ _ _ ⟨[(0, .ptr 0 0 0)], [(0, some (0, .box 151 [.sl (b.map dU), .p (.int .i64 ((p : Nat) : Int))]))]⟩
 refine rs (oa rfl (on (rs (om rfl (op_callE1 (v := fun x ver => .own 8 ver) (hp1 := fun x ver => [(0, some (0, .box 151 [.sl _, .p _])), (8, some (ver, .row 69 2 _))]) [(0, 0)] false ent129 (f_l3Prob _ _ hb (by omega)) ⟨.inl ⟨rfl, rfl⟩, trivial⟩ ⟨⟨rfl, rfl⟩, trivial⟩ rfl rfl (fun _ => rfl) (fun _ => rfl) (.inl rfl) (fun _ _ => rfl) (fun _ _ => rfl) ?_)))))
 rintro ⟨l8, p8⟩ ⟨ho8, hp8⟩ v8x1
 try dsimp only at ho8
 try dsimp only at hp8
 dsimp only [List.cons_append, List.nil_append]
 refine oa rfl (on (qqf (qqf ?_)))
 have hn : (0 : Int) ≤ ofV b (p8) ([2, 4, 3, 6, 0] : List Int) ∧ ofV b (p8) ([2, 4, 3, 6, 0] : List Int) ≤ 6 := ofV_in (l := [2, 4, 3, 6, 0]) (lo := 0) (hi := 6) (by decide) (by decide)
 refine ar (om rfl (qqv (fun ver => qqh (parts := [(0, .const (.int .i64 2)), (1, .const (.int .i64 4)), (2, .const (.int .i64 3)), (3, .const (.int .i64 6)), (4, .const (.int .i64 0))]) (es := [[_], [_], [_], [_], [_]]) qjb elt3 rfl rfl (by decide) (by decide) rfl rfl (by simp) rfl) fun v10x2 => ?_))
 refine qq0 (qqn (v := .p _) (hp1 := [(0, some (0, .box 151 [.sl _, .p _])), (10, some (v10x2, .row 3 1 _))]) [(0, 0), (10, v10x2)] false [0, 10] ent130 (f_num b (p8) [2, 4, 3, 6, 0] hb (by omega) (by decide) (by decide)) ⟨.inl ⟨rfl, rfl⟩, .inl ⟨rfl, rfl⟩, trivial⟩ ⟨⟨rfl, rfl⟩, ⟨rfl, rfl⟩, trivial⟩ rfl rfl (fun h => by cases h) rfl (List.all_eq_true.1 rfl) (.inl rfl) rfl rfl) ?_
 refine oa rfl (on (qqk ?_))
 refine qq4 (ι := List Con × Nat × Nat × Nat) (fun x => okP x.1 (8 + x.2.1) 12 ∧ x.2.1 ≤ 6 ∧ (x.2.1 : Int) ≤ ofV b p8 ([2, 4, 3, 6, 0] : List Int) ∧ p ≤ x.2.2.1 ∧ x.2.2.1 ≤ p + 351 + 50 * x.2.1) (fun x r => (4, .p (.int .i64 (ofV b p8 ([2, 4, 3, 6, 0] : List Int) - (x.2.1 : Nat)))) :: (3, .own 8 x.2.2.2) :: r) (fun x r => (0, some (0, .box 151 [.sl (b.map dU), .p (.int .i64 ((x.2.2.1 : Nat) : Int))])) :: (8, some (x.2.2.2, .row 69 2 (x.1.map dC))) :: r) (fun x => 6 - x.2.1) (fun _ _ => rfl) (fun _ _ => rfl) (l8, 0, p8 + 1, v8x1) (by first | exact ⟨ho8, by omega, by omega, by omega, by omega⟩ | (dsimp only; exact ⟨ho8, by omega, by omega, by omega, by omega⟩)) ⟨⟨rfl, rfl⟩, ⟨qz1 (by dsimp only; omega), rfl, trivial⟩, ⟨rfl, rfl, trivial⟩, ⟨rfl, rfl⟩, ⟨rfl, rfl⟩⟩ ?_
 rintro ⟨l, k, q, v⟩ hpre; dsimp only at hpre ⊢
 refine qqf (rs (om rfl (qqa (j_gt rfl rfl) (on (ac rfl (fun h1 => ?_) fun h1 => ?_)))))
 ·
  have h1r := h1
  try simp only [nq, nr, nl] at h1
  refine qqo (qqf (qqk (qqf ?_)))
  have hlc := l1C_ok b q 4 (by decide)
  have htt := tot_all (coef_wide hlc.1 (by decide) (by decide))
  have htp := (totV_bounds (fun t ht => by have := hlc.1 t ht; omega) : 0 ≤ totV (l1C b q 4).1.1 ∧ _)
  have hol := hpre.1.1
  refine ar (om rfl ?_)
  refine qz0 (fun ver => qza (v := .agg [.own 17 ver, .p _]) (hp1 := [(0, some (0, .box 151 [.sl _, .p _])), (17, some (ver, .row 135 2 _))]) [(0, 0)] false [0] ent131 (f_l1Draw b q 4 hb (by omega) (by decide)) ⟨.inl ⟨rfl, rfl⟩, .inl ⟨rfl, rfl⟩, trivial⟩ ⟨⟨rfl, rfl⟩, trivial⟩ rfl rfl rfl (fun h => by cases h) rfl (List.all_eq_true.1 rfl) (.inl rfl) rfl rfl) fun v17x3 => ?_
  refine qqv (fun ver => qjd qjm rfl) fun v5x4 => ?_
  refine qjg (qqe qq7 rfl rfl rfl rfl rfl rfl) ?_
  refine on (rs (qqa (qqg (ys := [.own 17 v17x3, .p _]) qq7 rfl rfl rfl (nb rfl)) ?_))
  refine qq0 (qqn (v := .p _) (hp1 := []) [] true [17] ent132 (f_l1TotalG (l1C b q 4).1 (coef_wide hlc.1 (by decide) (by decide)) (by omega)) ⟨.inr ⟨rfl, view_agg rfl (view_cons (qzq rfl rfl) (view_cons rfl rfl)), rfl⟩, trivial⟩ trivial rfl rfl (fun _ => rfl) rfl (fun _ h => by cases h) (.inr ⟨rfl, by first | exact pl_new1 (fun _ => rfl) | exact pl_newC | (simp [plO, plV, plV.plL]; done)⟩) rfl rfl) ?_
  refine oa rfl (on (qqf ?_))
  have hpk := pickV_lt (b := b) (p := (l1C b q 4).2) (n := totV (l1C b q 4).1.1 / 2 + 1) (by omega)
  refine ar (om rfl (om rfl (om rfl (qqa (j_quo rfl rfl zz zz zz) (qqa (qjh rfl rfl zz zz) ?_)))))
  refine qq0 (qqn (v := .p _) (hp1 := [(0, some (0, .box 151 [.sl _, .p _]))]) [(0, 0)] false [0] ent67 (f_pick _ _ _ (by assumption) (by omega)) ⟨.inl ⟨rfl, rfl⟩, .inl ⟨rfl, rfl⟩, trivial⟩ ⟨⟨rfl, rfl⟩, trivial⟩ rfl rfl (fun h => by cases h) rfl (List.all_eq_true.1 rfl) (.inl rfl) rfl rfl) ?_
  refine qqa (qzw rfl rfl zz zz) (qqa (qqi qzi rfl rfl) (qjg (qq5 qq6 rfl rfl (nb rfl) (evo rfl) rfl) ?_))
  refine on (qjk 0 5 (by decide) ⟨⟨_, _, rfl⟩, trivial⟩ rfl rfl rfl rfl ?_)
  try dsimp only [List.set]
  refine ar (om rfl (qqa (qqg (ys := [.sl _, .p _]) qq7 rfl rfl rfl (nb rfl)) (qqv (fun ver => qqh (parts := [(0, .tmp 29)]) (es := [[_, _]]) qj7 qjm rfl rfl (by decide) (by decide) rfl rfl (by simp) rfl) fun v30x5 => ?_)))
  refine qqv (fun ver => qqs qj7 qjm rfl rfl rfl rfl rfl rfl (by rw [qqu]; first | omega | (simp only [nr, nl]; omega)) zz) fun v8x6 => ?_
  refine oa rfl (on (ar (om rfl (qqa (qzw rfl rfl zz zz) (oa rfl (on ?_))))))
  exact ⟨(l ++ [((l1C b q 4).1.1, totV (l1C b q 4).1.1 - pickV b (l1C b q 4).2 (totV (l1C b q 4).1.1 / 2 + 1))], k + 1, (l1C b q 4).2 + 1, v8x6), (by first | exact ⟨okP_snoc hpre.1 hlc.2.1, by omega, by omega, by omega, by omega⟩ | (dsimp only; exact ⟨okP_snoc hpre.1 hlc.2.1, by omega, by omega, by omega, by omega⟩)), ⟨⟨rfl, rfl⟩, ⟨qz1 (by dsimp only; omega), rfl, trivial⟩, ⟨rfl, qj0 (by rw [List.map_append]; rfl), trivial⟩, ⟨rfl, rfl⟩, ⟨rfl, rfl⟩⟩, (by first | exact zz | (dsimp only; exact zz))⟩
 have h1r := h1
 try simp only [nq, nr, nl] at h1
 refine qjf (rs (om rfl (oa rfl (on (qqx ?_)))))
 exact ⟨[.own 8 v], .own 1 0, [.box 151 [.sl _, .p _]], [.row 69 2 _], [(8, v)], ⟨rfl, trivial⟩, rfl, rfl, ⟨⟨rfl, rfl⟩, ⟨rfl, rfl⟩, trivial⟩, rfl, rfl, ⟨(l, q), ⟨okP_mono hpre.1 (by omega) (Nat.le_refl _), by dsimp only; omega, by dsimp only; omega⟩, rfl, rfl, rfl⟩⟩
end Go.Ab

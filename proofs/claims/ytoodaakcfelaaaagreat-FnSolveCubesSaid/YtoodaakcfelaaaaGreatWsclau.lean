/- Walks. -/
import Derived.Test.YtoodaakcfelaaaaGreatBase
import Derived.Test.YtoodaakcfelaaaaGreatSimp
import Derived.Test.YtoodaakcfelaaaaGreatWsfix
import Derived.Test.YtoodaakcfelaaaaGreatWsdrawd
import Derived.Test.YtoodaakcfelaaaaGreatWstab
namespace Go.Ab
open Go.Proofs
set_option maxRecDepth 100000
set_option maxHeartbeats 8000000
set_option linter.unusedSimpArgs false
set_option linter.unusedVariables false
theorem zaq0 {p : Prop} (h : p := by first | omega | (simp only [nr, nl, qj4]; omega)) : p := h
theorem f_clauseSpec (ls : List Int) (h : okFrom 0 (ls.map oneL) = true) : Fn Tryz.prog 191 [.sl (ls.map dI)] [] (fun rr ii nn => rr = .tup [.agg [.sl ((ls.map oneL).map dT), .p (.int .i64 1)], .p (.bool true)] ∧ ii = [] ∧ nn = []) := by
 refine qjl Tryz.func191 rfl (nb rfl) fun w X g => ?_
 show AWp _ _ _ ⟨[(0, .sl (ls.map dI))], []⟩
 have hll := lits_len h
 refine rs (qqv (fun ver => qjd qjm rfl) fun v2x1 => ?_)
 refine oa rfl (on (rs (qqv (fun ver => j_make (n := 13) qjb elt3 rfl rfl (by decide) rfl rfl rfl rfl zaq0 (by rw [qqu]; first | omega | (simp only [nr, nl, qj4]; omega))) fun v9x2 => ?_)))
 refine oa rfl (on (a_row 9 (es' := (rowS []).map dI) rfl rowS_nil.symm ?_))
 refine qqf (rs (om rfl (qqa (qqw Tryz.underlying23 rfl) (qqa (j_gt rfl rfl) (on (ac rfl (fun h1 => ?_) fun h1 => ?_))))))
 ·
  have h1r := h1
  try simp only [nq, nr, nl, qj4] at h1
  exact absurd (of_decide_eq_true h1r) (by omega)
 have h1r := h1
 try simp only [nq, nr, nl, qj4] at h1
 refine qqo (qqf (rs (oa rfl (on (qqk (qq4 (ι := Nat) (fun k => k ≤ ls.length) (fun k r => (5, .p (.int .i64 ((k : Nat)))) :: r) (fun k r => (9, some (v9x2, .row 3 1 ((rowS (ls.take k)).map dI))) :: r) (fun k => ls.length - k) (fun _ _ => rfl) (fun _ _ => rfl) 0 zaq0 ⟨⟨rfl, rfl⟩, ⟨rfl, trivial⟩, ⟨rfl, trivial⟩, ⟨rfl, rfl⟩, ⟨rfl, rfl⟩⟩ ?_))))))
 intro k hpre0
 refine qqf (rs (om rfl (om rfl (qqa (qqw Tryz.underlying23 rfl) (qqa (qzt rfl rfl) (on (ac rfl (fun h2 => ?_) fun h2 => ?_)))))))
 ·
  have h2r := h2
  try simp only [nq, nr, nl, qj4] at h2
  refine qqo (qqf (qqk (qqf (qqf ?_))))
  have hlo := lit_ok h (k := k) (by omega)
  have hli := litOk_iff.1 hlo
  have hvo : varOf (ls.getD k default) = max (ls.getD k default) (-(ls.getD k default)) := rfl
  have hs0 : (rowS (ls.take k)).getD (varOf (ls.getD k default)).toNat default = 0 := by rw [rowS_at (by omega), Int.toNat_of_nonneg (by omega)]; exact seen_0 (lit_apart h (by omega))
  refine ar (om rfl (om rfl (qqa (qq9 qjb rfl rfl rfl (qqq zaq0) rfl) (qqa (qq8 qq6 rfl (qqq zaq0) rfl) ?_))))
  refine qq0 (qqn (v := .p _) (hp1 := []) [] false [] ent170 (f_l1Lit _) ⟨.inl ⟨rfl, rfl⟩, trivial⟩ trivial rfl rfl (fun h => by cases h) rfl (fun _ h => by cases h) (.inl rfl) rfl rfl) ?_
  refine qqa (qzk rfl) (on (ac rfl (fun h3 => ?_) fun h3 => ?_))
  ·
   have h3r := h3
   try simp only [nq, nr, nl, qj4] at h3
   exact absurd h3r (by rw [hlo]; decide)
  have h3r := h3
  try simp only [nq, nr, nl, qj4] at h3
  refine qqo (rs (om rfl (om rfl (qqa (qq9 qjb rfl rfl rfl (qqq zaq0) rfl) (qqa (qq8 qq6 rfl (qqq zaq0) rfl) ?_)))))
  refine qq0 (qqn (v := .p _) (hp1 := []) [] false [] ent171 (f_l1Abs _ zaq0) ⟨.inl ⟨rfl, rfl⟩, trivial⟩ trivial rfl rfl (fun h => by cases h) rfl (fun _ h => by cases h) (.inl rfl) rfl rfl) ?_
  refine oa rfl (on (qqf (qqf (qj3 qzr (by kernel_rfl) (by kernel_rfl) fun vf => ?_))))
  refine qql (qqj (evo rfl)) (qql (qqj (evo rfl)) (qql (qq2 (n := (varOf (ls.getD k default)).toNat) qjb rfl rfl rfl zaq0 zaq0) ?_))
  refine qql (qjo qq6 rfl rfl (qqq zaq0) rfl) (qql (qqj (evo rfl)) (qql (qqj (evo rfl)) (qql (qq9 qjb rfl rfl rfl (qqq zaq0) rfl) (qql (qq8 qq6 rfl (qqq zaq0) rfl) (qql (j_neg rfl zaq0 zaq0) (qql (qz5 rfl rfl) (qzf (by kernel_rfl) (by kernel_rfl) ?_)))))))
  refine ac rfl (fun h4 => ?_) fun h4 => ?_
  ·
   have h4r := h4
   try simp only [nq, nr, nl, qj4] at h4
   exact absurd (of_decide_eq_true h4r) (by rw [hs0]; omega)
  have h4r := h4
  try simp only [nq, nr, nl, qj4] at h4
  refine qqo (ar (om rfl (om rfl (om rfl (om rfl (qqa (qq9 qjb rfl rfl rfl (qqq zaq0) rfl) (qqa (qq8 qq6 rfl (qqq zaq0) rfl) (qqa (qq2 (n := (varOf (ls.getD k default)).toNat) qjb rfl rfl rfl zaq0 zaq0) ?_))))))))
  refine qjg (qzj qq6 rfl rfl zaq0 (evo rfl) rfl rfl) ?_
  refine on (ar (om rfl (qqa (qjh rfl rfl zaq0 zaq0) (oa rfl (on ?_)))))
  exact ⟨k + 1, zaq0, ⟨⟨rfl, rfl⟩, ⟨rfl, trivial⟩, ⟨qj0 (rowS_set h (by omega)), trivial⟩, ⟨rfl, rfl⟩, ⟨rfl, rfl⟩⟩, zaq0⟩
 have h2r := h2
 try simp only [nq, nr, nl, qj4] at h2
 refine qjf (rs (qqa (qjp (parts := [(1, .const (.int .i64 1))]) str69 qjm rfl rfl) ?_))
 refine qqv (fun ver => qjd qjm rfl) fun v7x3 => ?_
 refine qjg (qqe qq7 rfl rfl rfl rfl rfl rfl) ?_
 refine on (qjy 0 1007 135 2 (by decide) (id := 7) rfl rfl fun v1007x4 => ?_)
 refine qqf (rs (oa rfl (on (qqk (qq4 (ι := Nat × Nat) (fun x => x.1 ≤ 12) (fun x r => (8, .p (.int .i64 ((x.1 : Nat) + 1))) :: r) (fun x r => (7, some (v7x3, .box 69 [.own 1007 x.2, .p (.int .i64 1)])) :: (1007, some (x.2, .row 135 2 (((filtN ls (x.1 : Int)).map oneL).map dT))) :: r) (fun x => 12 - x.1) (fun _ _ => rfl) (fun _ _ => rfl) (0, v1007x4) (by first | exact (Nat.zero_le _) | (dsimp only; exact (Nat.zero_le _))) ⟨⟨rfl, rfl⟩, ⟨rfl, trivial⟩, ⟨rfl, qj0 (by rw [show filtN ls ((0 : Nat) : Int) = [] from filt_gt h (Int.le_refl 0)]; rfl), trivial⟩, ⟨rfl, rfl⟩, ⟨rfl, rfl⟩⟩ ?_)))))
 rintro ⟨v, vr⟩ hpv; dsimp only at hpv ⊢; obtain rfl : k = ls.length := (by omega); rw [List.take_length]; have hfl : (filtN ls (v : Int)).length ≤ ls.length := List.length_filter_le ..
 refine qqf (rs (om rfl (qqa (j_le rfl rfl) (on (ac rfl (fun h5 => ?_) fun h5 => ?_)))))
 ·
  have h5r := h5
  try simp only [nq, nr, nl, qj4] at h5
  have hra : (rowS ls).getD (v + 1) default = seenG ls ((v : Int) + 1) := rowS_at (by omega)
  refine qqo (qqf (qqk (rs (om rfl (om rfl (qqa (qq2 (n := v + 1) qjb rfl rfl rfl zaq0 zaq0) (qqa (qjo qq6 rfl rfl (qqq zaq0) rfl) (qqa (j_ne rfl rfl) (on (ac rfl (fun h6 => ?_) fun h6 => ?_))))))))))
  ·
   have h6r := h6
   try simp only [nq, nr, nl, qj4] at h6
   refine qj3 qzr (by kernel_rfl) (by kernel_rfl) fun vf => ?_
   refine qql (qqi qjn rfl rfl) (qql (qqc qjv rfl rfl rfl) (qql (qqj (evo rfl)) (qql (qqj (evo rfl)) (qql (qq2 (n := v + 1) qjb rfl rfl rfl zaq0 zaq0) (qql (qjo qq6 rfl rfl (qqq zaq0) rfl) (qql (qjp (parts := [(0, .const (.int .i64 1)), (1, .tmp 65)]) str135 qjx rfl rfl) ?_))))))
   refine d_n' (fun ver => qqh (parts := [(0, .tmp 66)]) (es := [[_, _]]) qzc qjx rfl rfl (by decide) (by decide) rfl rfl (by simp) rfl) ?_
   refine d_n' (fun ver => qqs qzc qjx rfl rfl rfl rfl rfl rfl (by rw [qqu]; first | omega | (simp only [nr, nl, qj4]; omega)) zaq0) ?_
   refine qql (qqi qjn rfl rfl) (d_s' (qq5 qjv rfl rfl (nb rfl) (evo rfl) rfl) ?_)
   refine qzf (by kernel_rfl) (by kernel_rfl) ?_
   refine ar (om rfl (qqa (qjh rfl rfl zaq0 zaq0) (oa rfl (on ?_))))
   exact ⟨(v + 1, (vf 1007)), (by first | exact zaq0 | (dsimp only; exact zaq0)), ⟨⟨rfl, rfl⟩, ⟨rfl, trivial⟩, ⟨rfl, qj0 (by rw [show (((v + 1 : Nat) : Nat) : Int) = (v : Int) + 1 from rfl, filt_next h, if_pos (by rw [← hra]; assumption), List.map_append, List.map_append, ← hra]; rfl), trivial⟩, ⟨rfl, rfl⟩, ⟨rfl, rfl⟩⟩, (by first | exact zaq0 | (dsimp only; exact zaq0))⟩
  have h6r := h6
  try simp only [nq, nr, nl, qj4] at h6
  refine qqo (ar (om rfl (qqa (qjh rfl rfl zaq0 zaq0) (oa rfl (on ?_)))))
  exact ⟨(v + 1, vr), (by first | exact zaq0 | (dsimp only; exact zaq0)), ⟨⟨rfl, rfl⟩, ⟨rfl, trivial⟩, ⟨rfl, qj0 (by rw [show (((v + 1 : Nat) : Nat) : Int) = (v : Int) + 1 from rfl, filt_next h, if_neg (by rw [← hra]; omega), List.append_nil]), trivial⟩, ⟨rfl, rfl⟩, ⟨rfl, rfl⟩⟩, (by first | exact zaq0 | (dsimp only; exact zaq0))⟩
 have h5r := h5
 try simp only [nq, nr, nl, qj4] at h5
 refine qjf (rs (qqa (qqg (ys := [.own 1007 vr, .p _]) qq7 rfl rfl rfl (nb rfl)) (qjg (qqe qq7 rfl rfl rfl rfl rfl rfl) ?_)))
 refine oa rfl (on (qjk 0 2 (by decide) trivial rfl rfl rfl rfl ?_))
 try dsimp only [List.set]
 refine qqx ?_
 exact ⟨[.agg [.sl _, .p _], .p _], .tup [.agg [.sl _, .p _], .p _], [], [], [], ⟨⟨_, _, _, _, rfl, rfl, qq7, rfl⟩, rfl, trivial⟩, rfl, rfl, trivial, rfl, rfl, ⟨by rw [show v = 12 by omega]; rw [show filtN ls ((12 : Nat) : Int) = ls from filt_all h], rfl, rfl⟩⟩
end Go.Ab

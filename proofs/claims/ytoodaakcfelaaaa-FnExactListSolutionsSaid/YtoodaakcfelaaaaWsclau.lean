/- Walks. -/
import Derived.Test.YtoodaakcfelaaaaBase
import Derived.Test.YtoodaakcfelaaaaSimp
import Derived.Test.YtoodaakcfelaaaaWsfix
import Derived.Test.YtoodaakcfelaaaaWstight
import Derived.Test.YtoodaakcfelaaaaWsparse
import Derived.Test.YtoodaakcfelaaaaWsexcl2
import Derived.Test.YtoodaakcfelaaaaWscon2
import Derived.Test.YtoodaakcfelaaaaWsexcl
namespace Go.Ab
open Go.Proofs
set_option maxRecDepth 100000
set_option maxHeartbeats 8000000
set_option linter.unusedSimpArgs false
set_option linter.unusedVariables false
theorem zao0 {p : Prop} (h : p := by first | omega | (simp only [nr, nl, qzo]; omega)) : p := h
theorem f_clauseSpec (ls : List Int) (h : okFrom 0 (ls.map oneL) = true) : Fn Try.prog 78 [.sl (ls.map dI)] [] (fun rr ii nn => rr = .tup [.agg [.sl ((ls.map oneL).map dT), .p (.int .i64 1)], .p (.bool true)] ∧ ii = [] ∧ nn = []) := by
 refine qjj Try.func78 rfl (nb rfl) fun w X g => ?_
 show AWp _ _ _ ⟨[(0, .sl (ls.map dI))], []⟩
 have hll := lits_len h
 refine rs (qqu (fun ver => qjw qzh rfl) fun v2x1 => ?_)
 refine oa rfl (on (rs (qqu (fun ver => j_make (n := 13) qjg elt3 rfl rfl (by decide) rfl rfl rfl rfl zao0 (by rw [qqw]; first | omega | (simp only [nr, nl, qzo]; omega))) fun v9x2 => ?_)))
 refine oa rfl (on (a_row 9 (es' := (rowS []).map dI) rfl rowS_nil.symm ?_))
 refine qqd (rs (om rfl (qqa (qqs Try.underlying23 rfl) (qqa (j_gt rfl rfl) (on (ac rfl (fun h1 => ?_) fun h1 => ?_))))))
 ·
  have h1r := h1
  try simp only [nq, nr, nl, qzo] at h1
  exact absurd (of_decide_eq_true h1r) (by omega)
 have h1r := h1
 try simp only [nq, nr, nl, qzo] at h1
 refine qqg (qqd (rs (oa rfl (on (qqh (qqt (ι := Nat) (fun k => k ≤ ls.length) (fun k r => (5, .p (.int .i64 ((k : Nat)))) :: r) (fun k r => (9, some (v9x2, .row 3 1 ((rowS (ls.take k)).map dI))) :: r) (fun k => ls.length - k) (fun _ _ => rfl) (fun _ _ => rfl) 0 zao0 ⟨⟨rfl, rfl⟩, ⟨rfl, trivial⟩, ⟨rfl, trivial⟩, ⟨rfl, rfl⟩, ⟨rfl, rfl⟩⟩ ?_))))))
 intro k hpre0
 refine qqd (rs (om rfl (om rfl (qqa (qqs Try.underlying23 rfl) (qqa (qzk rfl rfl) (on (ac rfl (fun h2 => ?_) fun h2 => ?_)))))))
 ·
  have h2r := h2
  try simp only [nq, nr, nl, qzo] at h2
  refine qqg (qqd (qqh (qqd (qqd ?_))))
  have hlo := lit_ok h (k := k) (by omega)
  have hli := litOk_iff.1 hlo
  have hvo : varOf (ls.getD k default) = max (ls.getD k default) (-(ls.getD k default)) := rfl
  have hs0 : (rowS (ls.take k)).getD (varOf (ls.getD k default)).toNat default = 0 := by rw [rowS_at (by omega), Int.toNat_of_nonneg (by omega)]; exact seen_0 (lit_apart h (by omega))
  refine ar (om rfl (om rfl (qqa (qq5 qjg rfl rfl rfl (qqj zao0) rfl) (qqa (qqz qq7 rfl (qqj zao0) rfl) ?_))))
  refine qq4 (qqp (v := .p _) (hp1 := []) [] false [] ent62 (f_l1Lit _) ⟨.inl ⟨rfl, rfl⟩, trivial⟩ trivial rfl rfl (fun h => by cases h) rfl (fun _ h => by cases h) (.inl rfl) rfl rfl) ?_
  refine qqa (j_not rfl) (on (ac rfl (fun h3 => ?_) fun h3 => ?_))
  ·
   have h3r := h3
   try simp only [nq, nr, nl, qzo] at h3
   exact absurd h3r (by rw [hlo]; decide)
  have h3r := h3
  try simp only [nq, nr, nl, qzo] at h3
  refine qqg (rs (om rfl (om rfl (qqa (qq5 qjg rfl rfl rfl (qqj zao0) rfl) (qqa (qqz qq7 rfl (qqj zao0) rfl) ?_)))))
  refine qq4 (qqp (v := .p _) (hp1 := []) [] false [] ent63 (f_l1Abs _ zao0) ⟨.inl ⟨rfl, rfl⟩, trivial⟩ trivial rfl rfl (fun h => by cases h) rfl (fun _ h => by cases h) (.inl rfl) rfl rfl) ?_
  refine oa rfl (on (qqd (qqd (a_draw mixed (by kernel_rfl) (by kernel_rfl) fun vf => ?_))))
  refine qqq (qqn (evo rfl)) (qqq (qqn (evo rfl)) (qqq (qqx (n := (varOf (ls.getD k default)).toNat) qjg rfl rfl rfl zao0 zao0) ?_))
  refine qqq (qjl qq7 rfl rfl (qqj zao0) rfl) (qqq (qqn (evo rfl)) (qqq (qqn (evo rfl)) (qqq (qq5 qjg rfl rfl rfl (qqj zao0) rfl) (qqq (qqz qq7 rfl (qqj zao0) rfl) (qqq (j_neg rfl zao0 zao0) (qqq (j_eq rfl rfl) (d_nil (by kernel_rfl) (by kernel_rfl) ?_)))))))
  refine ac rfl (fun h4 => ?_) fun h4 => ?_
  ·
   have h4r := h4
   try simp only [nq, nr, nl, qzo] at h4
   exact absurd (of_decide_eq_true h4r) (by rw [hs0]; omega)
  have h4r := h4
  try simp only [nq, nr, nl, qzo] at h4
  refine qqg (ar (om rfl (om rfl (om rfl (om rfl (qqa (qq5 qjg rfl rfl rfl (qqj zao0) rfl) (qqa (qqz qq7 rfl (qqj zao0) rfl) (qqa (qqx (n := (varOf (ls.getD k default)).toNat) qjg rfl rfl rfl zao0 zao0) ?_))))))))
  refine qjk (qj9 qq7 rfl rfl zao0 (evo rfl) rfl rfl) ?_
  refine on (ar (om rfl (qqa (qje rfl rfl zao0 zao0) (oa rfl (on ?_)))))
  exact ⟨k + 1, zao0, ⟨⟨rfl, rfl⟩, ⟨rfl, trivial⟩, ⟨qzd (rowS_set h (by omega)), trivial⟩, ⟨rfl, rfl⟩, ⟨rfl, rfl⟩⟩, zao0⟩
 have h2r := h2
 try simp only [nq, nr, nl, qzo] at h2
 refine qjf (rs (qqa (qz3 (parts := [(1, .const (.int .i64 1))]) str56 qzh rfl rfl) ?_))
 refine qqu (fun ver => qjw qzh rfl) fun v7x3 => ?_
 refine qjk (qqk qj5 rfl rfl rfl rfl rfl rfl) ?_
 refine on (a_adopt_box' 0 1007 83 2 (by decide) (id := 7) rfl rfl fun v1007x4 => ?_)
 refine qqd (rs (oa rfl (on (qqh (qqt (ι := Nat × Nat) (fun x => x.1 ≤ 12) (fun x r => (8, .p (.int .i64 ((x.1 : Nat) + 1))) :: r) (fun x r => (7, some (v7x3, .box 56 [.own 1007 x.2, .p (.int .i64 1)])) :: (1007, some (x.2, .row 83 2 (((filtN ls (x.1 : Int)).map oneL).map dT))) :: r) (fun x => 12 - x.1) (fun _ _ => rfl) (fun _ _ => rfl) (0, v1007x4) (by first | exact (Nat.zero_le _) | (dsimp only; exact (Nat.zero_le _))) ⟨⟨rfl, rfl⟩, ⟨rfl, trivial⟩, ⟨rfl, qzd (by rw [show filtN ls ((0 : Nat) : Int) = [] from filt_gt h (Int.le_refl 0)]; rfl), trivial⟩, ⟨rfl, rfl⟩, ⟨rfl, rfl⟩⟩ ?_)))))
 rintro ⟨v, vr⟩ hpv; dsimp only at hpv ⊢; obtain rfl : k = ls.length := (by omega); rw [List.take_length]; have hfl : (filtN ls (v : Int)).length ≤ ls.length := List.length_filter_le ..
 refine qqd (rs (om rfl (qqa (j_le rfl rfl) (on (ac rfl (fun h5 => ?_) fun h5 => ?_)))))
 ·
  have h5r := h5
  try simp only [nq, nr, nl, qzo] at h5
  have hra : (rowS ls).getD (v + 1) default = seenG ls ((v : Int) + 1) := rowS_at (by omega)
  refine qqg (qqd (qqh (rs (om rfl (om rfl (qqa (qqx (n := v + 1) qjg rfl rfl rfl zao0 zao0) (qqa (qjl qq7 rfl rfl (qqj zao0) rfl) (qqa (j_ne rfl rfl) (on (ac rfl (fun h6 => ?_) fun h6 => ?_))))))))))
  ·
   have h6r := h6
   try simp only [nq, nr, nl, qzo] at h6
   refine a_draw mixed (by kernel_rfl) (by kernel_rfl) fun vf => ?_
   refine qqq (qqm qjp rfl rfl) (qqq (qqe qj7 rfl rfl rfl) (qqq (qqn (evo rfl)) (qqq (qqn (evo rfl)) (qqq (qqx (n := v + 1) qjg rfl rfl rfl zao0 zao0) (qqq (qjl qq7 rfl rfl (qqj zao0) rfl) (qqq (qz3 (parts := [(0, .const (.int .i64 1)), (1, .tmp 65)]) str83 elt83 rfl rfl) ?_))))))
   refine d_n' (fun ver => qqv (parts := [(0, .tmp 66)]) (es := [[_, _]]) qz0 elt83 rfl rfl (by decide) (by decide) rfl rfl (by simp) rfl) ?_
   refine d_n' (fun ver => qq2 qz0 elt83 rfl rfl rfl rfl rfl rfl (by rw [qqw]; first | omega | (simp only [nr, nl, qzo]; omega)) zao0) ?_
   refine qqq (qqm qjp rfl rfl) (d_s' (qq8 qj7 rfl rfl (nb rfl) (evo rfl) rfl) ?_)
   refine d_nil (by kernel_rfl) (by kernel_rfl) ?_
   refine ar (om rfl (qqa (qje rfl rfl zao0 zao0) (oa rfl (on ?_))))
   exact ⟨(v + 1, (vf 1007)), (by first | exact zao0 | (dsimp only; exact zao0)), ⟨⟨rfl, rfl⟩, ⟨rfl, trivial⟩, ⟨rfl, qzd (by rw [show (((v + 1 : Nat) : Nat) : Int) = (v : Int) + 1 from rfl, filt_next h, if_pos (by rw [← hra]; assumption), List.map_append, List.map_append, ← hra]; rfl), trivial⟩, ⟨rfl, rfl⟩, ⟨rfl, rfl⟩⟩, (by first | exact zao0 | (dsimp only; exact zao0))⟩
  have h6r := h6
  try simp only [nq, nr, nl, qzo] at h6
  refine qqg (ar (om rfl (qqa (qje rfl rfl zao0 zao0) (oa rfl (on ?_)))))
  exact ⟨(v + 1, vr), (by first | exact zao0 | (dsimp only; exact zao0)), ⟨⟨rfl, rfl⟩, ⟨rfl, trivial⟩, ⟨rfl, qzd (by rw [show (((v + 1 : Nat) : Nat) : Int) = (v : Int) + 1 from rfl, filt_next h, if_neg (by rw [← hra]; omega), List.append_nil]), trivial⟩, ⟨rfl, rfl⟩, ⟨rfl, rfl⟩⟩, (by first | exact zao0 | (dsimp only; exact zao0))⟩
 have h5r := h5
 try simp only [nq, nr, nl, qzo] at h5
 refine qjf (rs (qqa (qqr (ys := [.own 1007 vr, .p _]) qj5 rfl rfl rfl (nb rfl)) (qjk (qqk qj5 rfl rfl rfl rfl rfl rfl) ?_)))
 refine oa rfl (on (a_freezeboxK 0 2 (by decide) trivial rfl rfl rfl rfl ?_))
 try dsimp only [List.set]
 refine qql ?_
 exact ⟨[.agg [.sl _, .p _], .p _], .tup [.agg [.sl _, .p _], .p _], [], [], [], ⟨⟨_, _, _, _, rfl, rfl, qj5, rfl⟩, rfl, trivial⟩, rfl, rfl, trivial, rfl, rfl, ⟨by rw [show v = 12 by omega]; rw [show filtN ls ((12 : Nat) : Int) = ls from filt_all h], rfl, rfl⟩⟩
end Go.Ab

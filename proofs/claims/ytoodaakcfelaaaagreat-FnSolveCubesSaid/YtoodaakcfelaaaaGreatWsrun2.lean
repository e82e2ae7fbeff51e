/- Walks. -/
import Derived.Test.YtoodaakcfelaaaaGreatBase
import Derived.Test.YtoodaakcfelaaaaGreatPf3
import Derived.Test.YtoodaakcfelaaaaGreatWsrun1
import Derived.Test.YtoodaakcfelaaaaGreatWssolve
namespace Go.Ab
open Go.Proofs
set_option maxRecDepth 100000
set_option maxHeartbeats 8000000
set_option linter.unusedSimpArgs false
set_option linter.unusedVariables false
theorem f_has (D : Db) (i : Int) (hl2 : D.2.length = D.1.length) (hll : D.1.length ≤ 2000) : Fn Tryz.prog 234 [.ptr 0 0 0, .p (.int .i64 (i))] [.box 170 [.own 1 0, .own 2 0], .row 69 2 ((D.1).map dC), .row 4 1 ((D.2).map dB)] (fun rr ii nn => rr = .p (.bool (livV D i)) ∧ ii = [.box 170 [.own 1 0, .own 2 0], .row 69 2 ((D.1).map dC), .row 4 1 ((D.2).map dB)] ∧ nn = []) := by
 refine qjl Tryz.func234 rfl (nb rfl) fun w X g => ?_
 show AWp _ _ _ ⟨[(0, .ptr 0 0 0), (1, .p (.int .i64 (i)))], [(0, some (0, .box 170 [.own 1 0, .own 2 0])), (1, some (0, .row 69 2 ((D.1).map dC))), (2, some (0, .row 4 1 ((D.2).map dB)))]⟩
 refine rs (oa rfl (on (rs (om rfl (om rfl (qqa (qq1 rfl rfl) (qqa (qqi qze rfl rfl) (qqa (qqc qzn rfl rfl rfl) (qqa (qja Tryz.underlying30 rfl rfl) (qqa (qzw rfl rfl zz zz) ?_))))))))))
 refine qq0 (qqn (v := .p _) (hp1 := []) [] false [] ent113 (f_within i 0 ((D.1.length : Int) - 1)) ⟨.inl ⟨rfl, rfl⟩, .inl ⟨rfl, rfl⟩, .inl ⟨rfl, rfl⟩, trivial⟩ trivial rfl rfl (fun h => by cases h) rfl (fun _ h => by cases h) (.inl rfl) rfl rfl) ?_
 refine om rfl (qqz 13 rfl (fun h1 => ?_) (fun h1 => ?_))
 ·
  have h1r := h1
  try simp only [nq, nr, nl] at h1
  refine qqa (qqd rfl rfl h1r (qqj (evo rfl))) (qqa (qqd rfl rfl h1r (qq1 rfl rfl)) (qqa (qqd rfl rfl h1r (qqi qzu rfl rfl)) (qqa (qqd rfl rfl h1r (qqc leaf44 rfl rfl rfl)) (qqa (qqd rfl rfl h1r (qqj (evo rfl))) (qqa (qqd rfl rfl h1r (qq2 (n := i.toNat) qzm rfl rfl rfl zz zz)) (qqa (qqd rfl rfl h1r (qjo leaf4 rfl rfl (qqq zz) rfl)) (qqa (qqd rfl rfl h1r (qzk rfl)) (qqa (qqr rfl h1r (evo rfl)) (oa rfl (on (qqx ?_)))))))))))
  exact ⟨[.p _], .p _, [.box 170 [.own 1 0, .own 2 0], .row 69 2 _, .row 4 1 _], [], [], ⟨rfl, trivial⟩, rfl, rfl, ⟨⟨rfl, rfl⟩, ⟨rfl, rfl⟩, ⟨rfl, rfl⟩, trivial⟩, rfl, rfl, ⟨qje (by first | exact (liv_y (D := D) (i := i) (by omega) rfl).symm | exact (liv_n (D := D) (i := i) (by omega)).symm), rfl, rfl⟩⟩
 have h1r := h1
 try simp only [nq, nr, nl] at h1
 refine qqa (qqb rfl rfl h1r) (qqa (qqb rfl rfl h1r) (qqa (qqb rfl rfl h1r) (qqa (qqb rfl rfl h1r) (qqa (qqb rfl rfl h1r) (qqa (qqb rfl rfl h1r) (qqa (qqb rfl rfl h1r) (qqa (qqb rfl rfl h1r) (qqa (qqy rfl h1r (evo rfl)) (oa rfl (on (qqx ?_)))))))))))
 exact ⟨[.p _], .p _, [.box 170 [.own 1 0, .own 2 0], .row 69 2 _, .row 4 1 _], [], [], ⟨rfl, trivial⟩, rfl, rfl, ⟨⟨rfl, rfl⟩, ⟨rfl, rfl⟩, ⟨rfl, rfl⟩, trivial⟩, rfl, rfl, ⟨qje (by first | exact (liv_y (D := D) (i := i) (by omega) rfl).symm | exact (liv_n (D := D) (i := i) (by omega)).symm), rfl, rfl⟩⟩
theorem f_left (D : Db) (hl2 : D.2.length = D.1.length) (hll : D.1.length ≤ 2000) : Fn Tryz.prog 242 [.ptr 0 0 0] [.box 170 [.own 1 0, .own 2 0], .row 69 2 ((D.1).map dC), .row 4 1 ((D.2).map dB)] (fun rr ii nn => rr = .own 3 0 ∧ ii = [.box 170 [.own 1 0, .own 2 0], .row 69 2 ((D.1).map dC), .row 4 1 ((D.2).map dB)] ∧ nn = [.row 69 2 ((kepV D).map dC)]) := by
 refine qjl Tryz.func242 rfl (nb rfl) fun w X g => ?_
 show AWp _ _ _ ⟨[(0, .ptr 0 0 0)], [(0, some (0, .box 170 [.own 1 0, .own 2 0])), (1, some (0, .row 69 2 ((D.1).map dC))), (2, some (0, .row 4 1 ((D.2).map dB)))]⟩
 refine rs (oa rfl (on (rs (oa rfl (on (qj5 3 3 69 2 rfl fun v3 => ?_))))))
 refine qqf (rs (om rfl (qqa (qq1 rfl rfl) (qqa (qqi qze rfl rfl) (qqa (qqc qzn rfl rfl rfl) (qqa (qja Tryz.underlying30 rfl rfl) (om rfl (on (qqk (qq4 (ι := Nat × Nat) (fun x => x.1 ≤ D.1.length) (fun x r => (11, .p (.int .i64 ((x.1 : Nat)))) :: (3, .own 3 x.2) :: r) (fun x r => (3, some (x.2, .row 69 2 ((kepN D x.1).map dC))) :: r) (fun x => D.1.length - x.1) (fun _ _ => rfl) (fun _ _ => rfl) (0, v3) (by first | exact (Nat.zero_le _) | (dsimp only; exact (Nat.zero_le _))) ⟨⟨rfl, rfl⟩, ⟨rfl, rfl, trivial⟩, ⟨rfl, trivial⟩, ⟨rfl, rfl⟩, ⟨rfl, rfl⟩⟩ ?_))))))))))
 rintro ⟨k, v⟩ hk; dsimp only at hk ⊢
 refine rs (qqa (qzt rfl rfl) (on (qqf (ac rfl (fun h1 => ?_) fun h1 => ?_))))
 ·
  have h1r := h1
  try simp only [nq, nr, nl] at h1
  refine qqo (qqf (qqk (qqf ?_)))
  have hkl := kepN_len (D := D) (n := k)
  refine ar (om rfl (qqa (qq2 (n := k) qj7 rfl rfl rfl zz zz) (qqa (qz6 (ys := [.sl _, .p _]) qq7 rfl rfl (qqq zz) rfl (Nat.le_refl _)) (qqv (fun ver => qjd qjm rfl) fun v5x1 => ?_))))
  refine oa rfl (qjg (qqe qq7 rfl rfl rfl rfl rfl rfl) ?_)
  refine on (rs (om rfl (qqa (qq1 rfl rfl) (qqa (qqi qzu rfl rfl) (qqa (qqc leaf44 rfl rfl rfl) (om rfl (qqa (qq2 (n := k) qzm rfl rfl rfl zz zz) (qqa (qjo leaf4 rfl rfl (qqq zz) rfl) (qqa (qzk rfl) (on (ac rfl (fun h2 => ?_) fun h2 => ?_)))))))))))
  ·
   have h2r := h2
   try simp only [nq, nr, nl] at h2
   refine ar (om rfl (qqa (qqg (ys := [.sl _, .p _]) qq7 rfl rfl rfl (nb rfl)) (qqv (fun ver => qqh (parts := [(0, .tmp 25)]) (es := [[_, _]]) qj7 qjm rfl rfl (by decide) (by decide) rfl rfl (by simp) rfl) fun v26x2 => ?_)))
   refine qqv (fun ver => qqs qj7 qjm rfl rfl rfl rfl rfl rfl (by rw [qqu]; first | omega | (simp only [nr, nl]; omega)) zz) fun v3x3 => ?_
   refine oa rfl (on (ar (qqa (qjh rfl rfl zz zz) (om rfl (on ?_)))))
   exact ⟨(k + 1, v3x3), (by first | exact zz | (dsimp only; exact zz)), ⟨⟨rfl, rfl⟩, ⟨rfl, rfl, trivial⟩, ⟨qj0 (by dsimp only; rw [kepN_n (by assumption), List.map_append]; rfl), trivial⟩, ⟨rfl, rfl⟩, ⟨rfl, rfl⟩⟩, (by first | exact zz | (dsimp only; exact zz))⟩
  have h2r := h2
  try simp only [nq, nr, nl] at h2
  refine qqo (ar (qqa (qjh rfl rfl zz zz) (om rfl (on ?_))))
  exact ⟨(k + 1, v), (by first | exact zz | (dsimp only; exact zz)), ⟨⟨rfl, rfl⟩, ⟨rfl, rfl, trivial⟩, ⟨qj0 (by dsimp only; rw [kepN_y (by assumption)]), trivial⟩, ⟨rfl, rfl⟩, ⟨rfl, rfl⟩⟩, (by first | exact zz | (dsimp only; exact zz))⟩
 have h1r := h1
 try simp only [nq, nr, nl] at h1
 refine qjf (rs (om rfl (oa rfl (on (qqx ?_)))))
 exact ⟨[.own 3 v], .own 3 0, [.box 170 [.own 1 0, .own 2 0], .row 69 2 _, .row 4 1 _], [.row 69 2 _], [(3, v)], ⟨rfl, trivial⟩, rfl, rfl, ⟨⟨rfl, rfl⟩, ⟨rfl, rfl⟩, ⟨rfl, rfl⟩, ⟨rfl, rfl⟩, trivial⟩, rfl, rfl, ⟨rfl, rfl, by rw [show k = D.1.length by omega]; rfl⟩⟩
end Go.Ab

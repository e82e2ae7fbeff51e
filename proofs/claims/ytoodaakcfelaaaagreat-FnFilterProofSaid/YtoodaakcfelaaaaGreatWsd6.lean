/- Walks. -/
import Derived.Test.YtoodaakcfelaaaaGreatBase2
import Derived.Test.YtoodaakcfelaaaaGreatDmod2
import Derived.Test.YtoodaakcfelaaaaGreatWsdraw
import Derived.Test.YtoodaakcfelaaaaGreatBase
import Derived.Test.YtoodaakcfelaaaaGreatWsmod2
import Derived.Test.YtoodaakcfelaaaaGreatSimp
import Derived.Test.YtoodaakcfelaaaaGreatWscons
import Derived.Test.YtoodaakcfelaaaaGreatVals
namespace Go.Ab
open Go.Proofs
set_option maxRecDepth 100000
set_option maxHeartbeats 8000000
set_option linter.unusedSimpArgs false
set_option linter.unusedVariables false
theorem qjp {p : Prop} (h : p := by first | omega | (simp only [nr, nl, qq1]; omega)) : p := h
theorem zau2 {p : Prop} (h : p := by first | omega | (simp only [nr, nl, cfV_len, qz1, qz2]; omega)) : p := h
theorem f_l6Some (b : List Int) (p : Nat) (s : List Int) (l : List Rl) (qju : Nat) (hb : okB b) (hp : p ≤ 1099511627000) (hs : s.length ≤ 100) (hl : qju ≤ 2) : Fn Tryz.prog 243 [.ptr 0 0 0, .agg [.sl (s.map dI), .own 1 0], .p (.int .i64 ((qju : Nat)))] [.box 151 [.sl (b.map dU), .p (.int .i64 ((p : Nat) : Int))], .row 123 5 ((l).map dR)] (fun rr ii nn => rr = .sl ((someV b p s.length qju).1.map dI) ∧ ii = [.box 151 [.sl (b.map dU), .p (.int .i64 (((someV b p s.length qju).2 : Nat) : Int))], .row 123 5 ((l).map dR)] ∧ nn = []) := by
 refine qjm Tryz.func243 rfl (nb rfl) fun w X g => ?_
 show AWp _ _ _ ⟨[(0, .ptr 0 0 0), (1, .agg [.sl (s.map dI), .own 1 0]), (2, .p (.int .i64 ((qju : Nat))))], [(0, some (0, .box 151 [.sl (b.map dU), .p (.int .i64 ((p : Nat) : Int))])), (1, some (0, .row 123 5 ((l).map dR)))]⟩
 refine rs (qq5 (fun ver => qj3 rfl) fun v4x1 => ?_)
 refine oa rfl (on (rs (qq5 (fun ver => j_bs0 qqz qz7 rfl rfl (by decide)) fun v12x2 => ?_)))
 refine oa rfl (on (qqe (rs (oa rfl (on (qqf (qqr (ι := Nat × Nat) (fun x => x.1 ≤ s.length) (fun x r => (8, .p (.int .i64 ((x.1 : Nat)))) :: (7, .own 12 x.2) :: r) (fun x r => (0, some (0, .box 151 [.sl (b.map dU), .p (.int .i64 ((p + x.1 : Nat) : Int))])) :: (12, some (x.2, .row 3 1 ((someA b p x.1).map dI))) :: r) (fun x => s.length - x.1) (fun _ _ => rfl) (fun _ _ => rfl) (0, v12x2) (by first | exact (Nat.zero_le _) | (dsimp only; exact (Nat.zero_le _))) ⟨⟨rfl, rfl⟩, ⟨rfl, rfl, trivial⟩, ⟨rfl, rfl, trivial⟩, ⟨rfl, rfl⟩, ⟨rfl, rfl⟩⟩ ?_)))))))
 rintro ⟨k, v⟩ hpre1; dsimp only at hpre1 ⊢
 have hal := someA_len (b := b) (p := p) (v := k)
 refine qqe (rs (om rfl (qqa (qqi qjs rfl rfl) (qqa (qqc qq9 rfl rfl rfl) (qqa (qqg Tryz.underlying23 rfl) (qqa (qzb rfl rfl) (on (ac rfl (fun h1 => ?_) fun h1 => ?_))))))))
 ·
  have h1r := h1
  try simp only [nq, nr, nl, qq1] at h1
  refine qqj (qqe (qqf (rs (om rfl ?_))))
  refine qq3 (qqn (v := .p _) (hp1 := [(0, some (0, .box 151 [.sl _, .p _]))]) [(0, 0)] false [0] ent67 (f_pick b (p + k) 3 hb (by omega)) ⟨.inl ⟨rfl, rfl⟩, .inl ⟨rfl, rfl⟩, trivial⟩ ⟨⟨rfl, rfl⟩, trivial⟩ rfl rfl (fun h => by cases h) rfl (List.all_eq_true.1 rfl) (.inl rfl) rfl rfl) ?_
  refine qqa (j_gt rfl rfl) (on (ac rfl (fun h2 => ?_) fun h2 => ?_))
  ·
   have h2r := h2
   try simp only [nq, nr, nl, qq1] at h2
   refine ar (om rfl (om rfl (qq5 (fun ver => qqw (parts := [(0, .tmp 24)]) (es := [[_]]) qqz qz7 rfl rfl (by decide) (by decide) rfl rfl (by simp) rfl) fun v25x3 => ?_)))
   refine qq5 (fun ver => qq6 qqz qz7 rfl rfl rfl rfl rfl rfl (by rw [qq0]; first | omega | (simp only [nr, nl, qq1]; omega)) qjp) fun v12x4 => ?_
   refine oa rfl (on (ar (om rfl (qqa (qjh rfl rfl qjp qjp) (oa rfl (on ?_))))))
   exact ⟨(k + 1, v12x4), (by first | exact qjp | (dsimp only; exact qjp)), ⟨⟨rfl, rfl⟩, ⟨rfl, rfl, trivial⟩, ⟨rfl, qza (by rw [someA_y (by assumption), List.map_append]; rfl), trivial⟩, ⟨rfl, rfl⟩, ⟨rfl, rfl⟩⟩, (by first | exact qjp | (dsimp only; exact qjp))⟩
  have h2r := h2
  try simp only [nq, nr, nl, qq1] at h2
  refine qqj (ar (om rfl (qqa (qjh rfl rfl qjp qjp) (oa rfl (on ?_)))))
  exact ⟨(k + 1, v), (by first | exact qjp | (dsimp only; exact qjp)), ⟨⟨rfl, rfl⟩, ⟨rfl, rfl, trivial⟩, ⟨rfl, qza (by rw [someA_n (by assumption)]), trivial⟩, ⟨rfl, rfl⟩, ⟨rfl, rfl⟩⟩, (by first | exact qjp | (dsimp only; exact qjp))⟩
 have h1r := h1
 try simp only [nq, nr, nl, qq1] at h1
 refine qja (qqe (qqe ?_))
 obtain rfl : k = s.length := by omega
 refine ar (oa rfl (on (qqf ?_)))
 refine qqr (ι := Nat × List Int × Nat) (fun x => x.1 ≤ s.length ∧ x.2.1.length ≤ s.length + x.1 ∧ fillF qju (s.length - x.1) x.1 x.2.1 = fillF qju s.length 0 (someA b p s.length)) (fun x r => (9, .p (.int .i64 ((x.1 : Nat)))) :: (7, .own 12 x.2.2) :: r) (fun x r => (12, some (x.2.2, .row 3 1 ((x.2.1).map dI))) :: r) (fun x => s.length - x.1) (fun _ _ => rfl) (fun _ _ => rfl) (0, someA b p s.length, v) (by first | exact ⟨Nat.zero_le _, by have := someA_len (b := b) (p := p) (v := s.length); omega, rfl⟩ | (dsimp only; exact ⟨Nat.zero_le _, by have := someA_len (b := b) (p := p) (v := s.length); omega, rfl⟩)) ⟨⟨rfl, rfl⟩, ⟨rfl, rfl, trivial⟩, ⟨rfl, trivial⟩, ⟨rfl, rfl⟩, ⟨rfl, rfl⟩⟩ ?_
 rintro ⟨j, l2, v2⟩ hpre2; dsimp only at hpre2 ⊢
 refine qqe (qqe ?_)
 have hlc : l2.length ≤ 400 := by omega
 refine ar (om rfl (qqa (qq7 Tryz.underlying23 rfl rfl) (om rfl (qqa (qzb rfl rfl) (om rfl (qqx 31 rfl (fun h3 => ?_) (fun h3 => ?_)))))))
 ·
  have h3r := h3
  try simp only [nq, nr, nl, qq1] at h3
  refine qqa (qqd rfl rfl h3r (qql (evo rfl))) (qqa (qqd rfl rfl h3r (qqi qjs rfl rfl)) (qqa (qqd rfl rfl h3r (qqc qq9 rfl rfl rfl)) (qqa (qqd rfl rfl h3r (qqg Tryz.underlying23 rfl)) (qqa (qqd rfl rfl h3r (qzb rfl rfl)) (qqa (qqu rfl h3r (evo rfl)) (on (ac rfl (fun h4 => ?_) fun h4 => ?_)))))))
  ·
   have h4r := h4
   try simp only [nq, nr, nl, qq1] at h4
   refine qqj (qqe (qqf (rs (om rfl (qqa (qq7 Tryz.underlying23 rfl rfl) (qqa (qz4 rfl rfl) (om rfl (qqx 43 rfl (fun h5 => ?_) (fun h5 => ?_)))))))))
   ·
    have h5r := h5
    try simp only [nq, nr, nl, qq1] at h5
    refine qqa (qqb rfl rfl h5r) (qqa (qqb rfl rfl h5r) (qqa (qqb rfl rfl h5r) (qqa (qqb rfl rfl h5r) (qqa (qqb rfl rfl h5r) (qqa (qqb rfl rfl h5r) (qqa (qqb rfl rfl h5r) (qqa (qqb rfl rfl h5r) (qqa (qqu rfl h5r (evo rfl)) (on (a_tt rfl ?_))))))))))
    refine ar (om rfl (om rfl (qq5 (fun ver => qqw (parts := [(0, .tmp 54)]) (es := [[_]]) qqz qz7 rfl rfl (by decide) (by decide) rfl rfl (by simp) rfl) fun v55x5 => ?_)))
    refine qq5 (fun ver => qq6 qqz qz7 rfl rfl rfl rfl rfl rfl (by rw [qq0]; first | omega | (simp only [nr, nl, qq1]; omega)) qjp) fun v12x6 => ?_
    refine oa rfl (on (ar (om rfl (qqa (qjh rfl rfl qjp qjp) (oa rfl (on ?_))))))
    exact ⟨(j + 1, l2 ++ [(j : Int)], v12x6), (by first | exact ⟨by omega, by simp only [List.length_append, List.length_cons, List.length_nil]; omega, by rw [show s.length - (j + 1) = s.length - j - 1 by omega, fill_y (by omega) (by omega) (by first | exact .inl (by omega) | exact .inr (by omega))]; exact hpre2.2.2⟩ | (dsimp only; exact ⟨by omega, by simp only [List.length_append, List.length_cons, List.length_nil]; omega, by rw [show s.length - (j + 1) = s.length - j - 1 by omega, fill_y (by omega) (by omega) (by first | exact .inl (by omega) | exact .inr (by omega))]; exact hpre2.2.2⟩)), ⟨⟨rfl, rfl⟩, ⟨rfl, rfl, trivial⟩, ⟨qza (by rw [List.map_append]; rfl), trivial⟩, ⟨rfl, rfl⟩, ⟨rfl, rfl⟩⟩, (by first | exact (by omega) | (dsimp only; exact (by omega)))⟩
   have h5r := h5
   try simp only [nq, nr, nl, qq1] at h5
   refine qqa (qqd rfl rfl h5r (qql (evo rfl))) (qqa (qqd rfl rfl h5r (qql (evo rfl))) (qqa (qqd rfl rfl h5r (qq7 Tryz.underlying23 rfl rfl)) (qqa (qqd rfl rfl h5r (qzy rfl rfl qjp qjp)) (qqa (qqd rfl rfl h5r (qqo (n := (l2.length - 1)) qqz rfl rfl rfl qjp qjp)) ?_))))
   refine qqa (qqd rfl rfl h5r (qjd qq2 rfl rfl (qqh qjp) rfl)) (qqa (qqd rfl rfl h5r (qql (evo rfl))) (qqa (qqd rfl rfl h5r (qzb rfl rfl)) (qqa (qqt rfl h5r (evo rfl)) (on (ac rfl (fun h6 => ?_) fun h6 => ?_)))))
   ·
    have h6r := h6
    try simp only [nq, nr, nl, qq1] at h6
    refine ar (om rfl (om rfl (qq5 (fun ver => qqw (parts := [(0, .tmp 54)]) (es := [[_]]) qqz qz7 rfl rfl (by decide) (by decide) rfl rfl (by simp) rfl) fun v55x7 => ?_)))
    refine qq5 (fun ver => qq6 qqz qz7 rfl rfl rfl rfl rfl rfl (by rw [qq0]; first | omega | (simp only [nr, nl, qq1]; omega)) qjp) fun v12x8 => ?_
    refine oa rfl (on (ar (om rfl (qqa (qjh rfl rfl qjp qjp) (oa rfl (on ?_))))))
    exact ⟨(j + 1, l2 ++ [(j : Int)], v12x8), (by first | exact ⟨by omega, by simp only [List.length_append, List.length_cons, List.length_nil]; omega, by rw [show s.length - (j + 1) = s.length - j - 1 by omega, fill_y (by omega) (by omega) (by first | exact .inl (by omega) | exact .inr (by omega))]; exact hpre2.2.2⟩ | (dsimp only; exact ⟨by omega, by simp only [List.length_append, List.length_cons, List.length_nil]; omega, by rw [show s.length - (j + 1) = s.length - j - 1 by omega, fill_y (by omega) (by omega) (by first | exact .inl (by omega) | exact .inr (by omega))]; exact hpre2.2.2⟩)), ⟨⟨rfl, rfl⟩, ⟨rfl, rfl, trivial⟩, ⟨qza (by rw [List.map_append]; rfl), trivial⟩, ⟨rfl, rfl⟩, ⟨rfl, rfl⟩⟩, (by first | exact (by omega) | (dsimp only; exact (by omega)))⟩
   have h6r := h6
   try simp only [nq, nr, nl, qq1] at h6
   refine qqj (ar (om rfl (qqa (qjh rfl rfl qjp qjp) (oa rfl (on ?_)))))
   exact ⟨(j + 1, l2, v2), (by first | exact ⟨by omega, by omega, by rw [show s.length - (j + 1) = s.length - j - 1 by omega, fill_n (by omega) (by omega) (by unfold lastL; omega)]; exact hpre2.2.2⟩ | (dsimp only; exact ⟨by omega, by omega, by rw [show s.length - (j + 1) = s.length - j - 1 by omega, fill_n (by omega) (by omega) (by unfold lastL; omega)]; exact hpre2.2.2⟩)), ⟨⟨rfl, rfl⟩, ⟨rfl, rfl, trivial⟩, ⟨rfl, trivial⟩, ⟨rfl, rfl⟩, ⟨rfl, rfl⟩⟩, (by first | exact (by omega) | (dsimp only; exact (by omega)))⟩
  have h4r := h4
  try simp only [nq, nr, nl, qq1] at h4
  refine qja (qqe (rs (om rfl (qqa (qq7 Tryz.underlying23 rfl rfl) (om rfl (qqa (qzb rfl rfl) (om rfl (qqx 61 rfl (fun h7 => ?_) (fun h7 => ?_)))))))))
  ·
   have h7r := h7
   try simp only [nq, nr, nl, qq1] at h7
   refine qqa (qqb rfl rfl h7r) (qqa (qqb rfl rfl h7r) (qqa (qqb rfl rfl h7r) (qqa (qqu rfl h7r (evo rfl)) (on (a_tt rfl ?_)))))
   refine rs (qq5 (fun ver => j_bs0 qqz qz7 rfl rfl (by decide)) fun v66x9 => ?_)
   refine oa rfl (on (rs (oa rfl (on (qqf (qqr (ι := Nat × Nat) (fun x => x.1 ≤ qju) (fun x r => (10, .p (.int .i64 ((x.1 : Nat)))) :: (7, .own 66 x.2) :: r) (fun x r => (66, some (x.2, .row 3 1 ((rangeI x.1).map dI))) :: r) (fun x => qju - x.1) (fun _ _ => rfl) (fun _ _ => rfl) (0, v66x9) (by first | exact (Nat.zero_le _) | (dsimp only; exact (Nat.zero_le _))) ⟨⟨rfl, rfl⟩, ⟨rfl, rfl, trivial⟩, ⟨rfl, trivial⟩, ⟨rfl, rfl⟩, ⟨rfl, rfl⟩⟩ ?_))))))
   rintro ⟨t, v⟩ ht; dsimp only at ht ⊢
   refine qqe (rs (om rfl (om rfl (qqa (qzb rfl rfl) (on (ac rfl (fun h8 => ?_) fun h8 => ?_))))))
   ·
    have h8r := h8
    try simp only [nq, nr, nl, qq1] at h8
    refine qqj (qqe (qqf (ar (om rfl (om rfl (qq5 (fun ver => qqw (parts := [(0, .tmp 73)]) (es := [[_]]) qqz qz7 rfl rfl (by decide) (by decide) rfl rfl (by simp) rfl) fun v74x10 => ?_))))))
    refine qq5 (fun ver => qq6 qqz qz7 rfl rfl rfl rfl rfl rfl (by rw [qq0]; first | omega | (simp only [nr, nl, qq1]; omega)) qjp) fun v66x11 => ?_
    refine oa rfl (on (ar (om rfl (qqa (qjh rfl rfl qjp qjp) (oa rfl (on ?_))))))
    exact ⟨(t + 1, v66x11), (by first | exact qjp | (dsimp only; exact qjp)), ⟨⟨rfl, rfl⟩, ⟨rfl, rfl, trivial⟩, ⟨qza (by rw [rangeI_next, List.map_append]; rfl), trivial⟩, ⟨rfl, rfl⟩, ⟨rfl, rfl⟩⟩, (by first | exact qjp | (dsimp only; exact qjp))⟩
   have h8r := h8
   try simp only [nq, nr, nl, qq1] at h8
   refine qja (qqe (qqe ?_))
   first | have hL : some3 b p s.length qju = rangeI t := (by rw [some3_y ((fill_stop (by omega)).symm.trans hpre2.2.2).symm (by omega)]; congr 1; omega) | have hL : some3 b p s.length qju = l2 := some3_n ((fill_stop (by omega)).symm.trans hpre2.2.2).symm (by omega)
   refine ar (om rfl (qqa (qq7 Tryz.underlying23 rfl rfl) (qqa (j_gt rfl rfl) (om rfl (qqx 79 rfl (fun h9 => ?_) (fun h9 => ?_))))))
   ·
    have h9r := h9
    try simp only [nq, nr, nl, qq1] at h9
    refine qqa (qqd rfl rfl h9r (qql (evo rfl))) ?_
    refine qq3 (qqd rfl rfl h9r (qqn (v := .p _) (hp1 := [(0, some (0, .box 151 [.sl _, .p _]))]) [(0, 0)] false [0] ent67 (f_pick b (p + s.length) 3 hb (by omega)) ⟨.inl ⟨rfl, rfl⟩, .inl ⟨rfl, rfl⟩, trivial⟩ ⟨⟨rfl, rfl⟩, trivial⟩ rfl rfl (fun h => by cases h) rfl (List.all_eq_true.1 rfl) (.inl rfl) rfl rfl)) ?_
    refine qqa (qqd rfl rfl h9r (qz4 rfl rfl)) (qqa (qqu rfl h9r (evo rfl)) (on (ac rfl (fun h10 => ?_) fun h10 => ?_)))
    ·
     have h10r := h10
     try simp only [nq, nr, nl, qq1] at h10
     refine rs (om rfl (qqa (qqo qqz rfl rfl rfl rfl qjp) (qqa (qjd qq2 rfl rfl (qqh qjp) rfl) (oa rfl (on (rs (om rfl (om rfl (qqa (qqo qqz rfl rfl rfl rfl qjp) (qqa (qjd qq2 rfl rfl (qqh qjp) rfl) (qqa (qqo qqz rfl rfl rfl rfl qjp) (qjo (qji qq2 rfl rfl qjp (evo rfl) rfl rfl) ?_))))))))))))
     refine on (ar (om rfl (om rfl (qqa (qqo qqz rfl rfl rfl rfl qjp) (qjo (qji qq2 rfl rfl qjp (evo rfl) rfl rfl) ?_)))))
     refine on (rs (om rfl (oa rfl (on (qj4 6 ⟨⟨_, _, rfl⟩, ⟨_, _, _, rfl⟩, trivial⟩ rfl rfl rfl ?_)))))
     refine qqm ?_
     exact ⟨[.sl _], .sl _, [.box 151 [.sl _, .p _], .row 123 5 _], [], [], ⟨rfl, trivial⟩, rfl, rfl, ⟨⟨rfl, rfl⟩, ⟨rfl, rfl⟩, trivial⟩, rfl, rfl, ⟨by unfold someV; rw [hL]; first | (rw [fin_y qjp (by assumption)]; exact congrArg V.sl (by unfold swp; rw [List.map_set, List.map_set]; rfl)) | (rw [fin_n qjp (by assumption)]; done) | (rw [fin_s qjp]; done), by unfold someV; rw [hL]; first | rw [fin_y qjp (by assumption)] | rw [fin_n qjp (by assumption)] | rw [fin_s qjp], rfl⟩⟩
    have h10r := h10
    try simp only [nq, nr, nl, qq1] at h10
    refine qqj (rs (om rfl (oa rfl (on (qj4 6 ⟨⟨_, _, rfl⟩, ⟨_, _, _, rfl⟩, trivial⟩ rfl rfl rfl ?_)))))
    refine qqm ?_
    exact ⟨[.sl _], .sl _, [.box 151 [.sl _, .p _], .row 123 5 _], [], [], ⟨rfl, trivial⟩, rfl, rfl, ⟨⟨rfl, rfl⟩, ⟨rfl, rfl⟩, trivial⟩, rfl, rfl, ⟨by unfold someV; rw [hL]; first | (rw [fin_y qjp (by assumption)]; exact congrArg V.sl (by unfold swp; rw [List.map_set, List.map_set]; rfl)) | (rw [fin_n qjp (by assumption)]; done) | (rw [fin_s qjp]; done), by unfold someV; rw [hL]; first | rw [fin_y qjp (by assumption)] | rw [fin_n qjp (by assumption)] | rw [fin_s qjp], rfl⟩⟩
   have h9r := h9
   try simp only [nq, nr, nl, qq1] at h9
   refine qqa (qqb rfl rfl h9r) (qqa (qqb rfl rfl h9r) (qqa (qqb rfl rfl h9r) (qqa (qqt rfl h9r (evo rfl)) (on (a_ff rfl ?_)))))
   refine qqj (rs (om rfl (oa rfl (on (qj4 6 ⟨⟨_, _, rfl⟩, ⟨_, _, _, rfl⟩, trivial⟩ rfl rfl rfl ?_)))))
   refine qqm ?_
   exact ⟨[.sl _], .sl _, [.box 151 [.sl _, .p _], .row 123 5 _], [], [], ⟨rfl, trivial⟩, rfl, rfl, ⟨⟨rfl, rfl⟩, ⟨rfl, rfl⟩, trivial⟩, rfl, rfl, ⟨by unfold someV; rw [hL]; first | (rw [fin_y qjp (by assumption)]; exact congrArg V.sl (by unfold swp; rw [List.map_set, List.map_set]; rfl)) | (rw [fin_n qjp (by assumption)]; done) | (rw [fin_s qjp]; done), by unfold someV; rw [hL]; first | rw [fin_y qjp (by assumption)] | rw [fin_n qjp (by assumption)] | rw [fin_s qjp], rfl⟩⟩
  have h7r := h7
  try simp only [nq, nr, nl, qq1] at h7
  refine qqa (qqd rfl rfl h7r (qql (evo rfl))) (qqa (qqd rfl rfl h7r (qq7 Tryz.underlying23 rfl rfl)) (qqa (qqd rfl rfl h7r (qz4 rfl rfl)) (qqa (qqt rfl h7r (evo rfl)) (on (ac rfl (fun h11 => ?_) fun h11 => ?_)))))
  ·
   have h11r := h11
   try simp only [nq, nr, nl, qq1] at h11
   refine rs (qq5 (fun ver => j_bs0 qqz qz7 rfl rfl (by decide)) fun v66x12 => ?_)
   refine oa rfl (on (rs (oa rfl (on (qqf (qqr (ι := Nat × Nat) (fun x => x.1 ≤ qju) (fun x r => (10, .p (.int .i64 ((x.1 : Nat)))) :: (7, .own 66 x.2) :: r) (fun x r => (66, some (x.2, .row 3 1 ((rangeI x.1).map dI))) :: r) (fun x => qju - x.1) (fun _ _ => rfl) (fun _ _ => rfl) (0, v66x12) (by first | exact (Nat.zero_le _) | (dsimp only; exact (Nat.zero_le _))) ⟨⟨rfl, rfl⟩, ⟨rfl, rfl, trivial⟩, ⟨rfl, trivial⟩, ⟨rfl, rfl⟩, ⟨rfl, rfl⟩⟩ ?_))))))
   rintro ⟨t, v⟩ ht; dsimp only at ht ⊢
   refine qqe (rs (om rfl (om rfl (qqa (qzb rfl rfl) (on (ac rfl (fun h12 => ?_) fun h12 => ?_))))))
   ·
    have h12r := h12
    try simp only [nq, nr, nl, qq1] at h12
    refine qqj (qqe (qqf (ar (om rfl (om rfl (qq5 (fun ver => qqw (parts := [(0, .tmp 73)]) (es := [[_]]) qqz qz7 rfl rfl (by decide) (by decide) rfl rfl (by simp) rfl) fun v74x13 => ?_))))))
    refine qq5 (fun ver => qq6 qqz qz7 rfl rfl rfl rfl rfl rfl (by rw [qq0]; first | omega | (simp only [nr, nl, qq1]; omega)) qjp) fun v66x14 => ?_
    refine oa rfl (on (ar (om rfl (qqa (qjh rfl rfl qjp qjp) (oa rfl (on ?_))))))
    exact ⟨(t + 1, v66x14), (by first | exact qjp | (dsimp only; exact qjp)), ⟨⟨rfl, rfl⟩, ⟨rfl, rfl, trivial⟩, ⟨qza (by rw [rangeI_next, List.map_append]; rfl), trivial⟩, ⟨rfl, rfl⟩, ⟨rfl, rfl⟩⟩, (by first | exact qjp | (dsimp only; exact qjp))⟩
   have h12r := h12
   try simp only [nq, nr, nl, qq1] at h12
   refine qja (qqe (qqe ?_))
   first | have hL : some3 b p s.length qju = rangeI t := (by rw [some3_y ((fill_stop (by omega)).symm.trans hpre2.2.2).symm (by omega)]; congr 1; omega) | have hL : some3 b p s.length qju = l2 := some3_n ((fill_stop (by omega)).symm.trans hpre2.2.2).symm (by omega)
   refine ar (om rfl (qqa (qq7 Tryz.underlying23 rfl rfl) (qqa (j_gt rfl rfl) (om rfl (qqx 79 rfl (fun h13 => ?_) (fun h13 => ?_))))))
   ·
    have h13r := h13
    try simp only [nq, nr, nl, qq1] at h13
    refine qqa (qqd rfl rfl h13r (qql (evo rfl))) ?_
    refine qq3 (qqd rfl rfl h13r (qqn (v := .p _) (hp1 := [(0, some (0, .box 151 [.sl _, .p _]))]) [(0, 0)] false [0] ent67 (f_pick b (p + s.length) 3 hb (by omega)) ⟨.inl ⟨rfl, rfl⟩, .inl ⟨rfl, rfl⟩, trivial⟩ ⟨⟨rfl, rfl⟩, trivial⟩ rfl rfl (fun h => by cases h) rfl (List.all_eq_true.1 rfl) (.inl rfl) rfl rfl)) ?_
    refine qqa (qqd rfl rfl h13r (qz4 rfl rfl)) (qqa (qqu rfl h13r (evo rfl)) (on (ac rfl (fun h14 => ?_) fun h14 => ?_)))
    ·
     have h14r := h14
     try simp only [nq, nr, nl, qq1] at h14
     refine rs (om rfl (qqa (qqo qqz rfl rfl rfl rfl qjp) (qqa (qjd qq2 rfl rfl (qqh qjp) rfl) (oa rfl (on (rs (om rfl (om rfl (qqa (qqo qqz rfl rfl rfl rfl qjp) (qqa (qjd qq2 rfl rfl (qqh qjp) rfl) (qqa (qqo qqz rfl rfl rfl rfl qjp) (qjo (qji qq2 rfl rfl qjp (evo rfl) rfl rfl) ?_))))))))))))
     refine on (ar (om rfl (om rfl (qqa (qqo qqz rfl rfl rfl rfl qjp) (qjo (qji qq2 rfl rfl qjp (evo rfl) rfl rfl) ?_)))))
     refine on (rs (om rfl (oa rfl (on (qj4 6 ⟨⟨_, _, rfl⟩, ⟨_, _, _, rfl⟩, trivial⟩ rfl rfl rfl ?_)))))
     refine qqm ?_
     exact ⟨[.sl _], .sl _, [.box 151 [.sl _, .p _], .row 123 5 _], [], [], ⟨rfl, trivial⟩, rfl, rfl, ⟨⟨rfl, rfl⟩, ⟨rfl, rfl⟩, trivial⟩, rfl, rfl, ⟨by unfold someV; rw [hL]; first | (rw [fin_y qjp (by assumption)]; exact congrArg V.sl (by unfold swp; rw [List.map_set, List.map_set]; rfl)) | (rw [fin_n qjp (by assumption)]; done) | (rw [fin_s qjp]; done), by unfold someV; rw [hL]; first | rw [fin_y qjp (by assumption)] | rw [fin_n qjp (by assumption)] | rw [fin_s qjp], rfl⟩⟩
    have h14r := h14
    try simp only [nq, nr, nl, qq1] at h14
    refine qqj (rs (om rfl (oa rfl (on (qj4 6 ⟨⟨_, _, rfl⟩, ⟨_, _, _, rfl⟩, trivial⟩ rfl rfl rfl ?_)))))
    refine qqm ?_
    exact ⟨[.sl _], .sl _, [.box 151 [.sl _, .p _], .row 123 5 _], [], [], ⟨rfl, trivial⟩, rfl, rfl, ⟨⟨rfl, rfl⟩, ⟨rfl, rfl⟩, trivial⟩, rfl, rfl, ⟨by unfold someV; rw [hL]; first | (rw [fin_y qjp (by assumption)]; exact congrArg V.sl (by unfold swp; rw [List.map_set, List.map_set]; rfl)) | (rw [fin_n qjp (by assumption)]; done) | (rw [fin_s qjp]; done), by unfold someV; rw [hL]; first | rw [fin_y qjp (by assumption)] | rw [fin_n qjp (by assumption)] | rw [fin_s qjp], rfl⟩⟩
   have h13r := h13
   try simp only [nq, nr, nl, qq1] at h13
   refine qqa (qqb rfl rfl h13r) (qqa (qqb rfl rfl h13r) (qqa (qqb rfl rfl h13r) (qqa (qqt rfl h13r (evo rfl)) (on (a_ff rfl ?_)))))
   refine qqj (rs (om rfl (oa rfl (on (qj4 6 ⟨⟨_, _, rfl⟩, ⟨_, _, _, rfl⟩, trivial⟩ rfl rfl rfl ?_)))))
   refine qqm ?_
   exact ⟨[.sl _], .sl _, [.box 151 [.sl _, .p _], .row 123 5 _], [], [], ⟨rfl, trivial⟩, rfl, rfl, ⟨⟨rfl, rfl⟩, ⟨rfl, rfl⟩, trivial⟩, rfl, rfl, ⟨by unfold someV; rw [hL]; first | (rw [fin_y qjp (by assumption)]; exact congrArg V.sl (by unfold swp; rw [List.map_set, List.map_set]; rfl)) | (rw [fin_n qjp (by assumption)]; done) | (rw [fin_s qjp]; done), by unfold someV; rw [hL]; first | rw [fin_y qjp (by assumption)] | rw [fin_n qjp (by assumption)] | rw [fin_s qjp], rfl⟩⟩
  have h11r := h11
  try simp only [nq, nr, nl, qq1] at h11
  refine qqj (qqe (qqe ?_))
  first | have hL : some3 b p s.length qju = rangeI t := (by rw [some3_y ((fill_stop (by omega)).symm.trans hpre2.2.2).symm (by omega)]; congr 1; omega) | have hL : some3 b p s.length qju = l2 := some3_n ((fill_stop (by omega)).symm.trans hpre2.2.2).symm (by omega)
  refine ar (om rfl (qqa (qq7 Tryz.underlying23 rfl rfl) (qqa (j_gt rfl rfl) (om rfl (qqx 79 rfl (fun h15 => ?_) (fun h15 => ?_))))))
  ·
   have h15r := h15
   try simp only [nq, nr, nl, qq1] at h15
   refine qqa (qqd rfl rfl h15r (qql (evo rfl))) ?_
   refine qq3 (qqd rfl rfl h15r (qqn (v := .p _) (hp1 := [(0, some (0, .box 151 [.sl _, .p _]))]) [(0, 0)] false [0] ent67 (f_pick b (p + s.length) 3 hb (by omega)) ⟨.inl ⟨rfl, rfl⟩, .inl ⟨rfl, rfl⟩, trivial⟩ ⟨⟨rfl, rfl⟩, trivial⟩ rfl rfl (fun h => by cases h) rfl (List.all_eq_true.1 rfl) (.inl rfl) rfl rfl)) ?_
   refine qqa (qqd rfl rfl h15r (qz4 rfl rfl)) (qqa (qqu rfl h15r (evo rfl)) (on (ac rfl (fun h16 => ?_) fun h16 => ?_)))
   ·
    have h16r := h16
    try simp only [nq, nr, nl, qq1] at h16
    refine rs (om rfl (qqa (qqo qqz rfl rfl rfl rfl qjp) (qqa (qjd qq2 rfl rfl (qqh qjp) rfl) (oa rfl (on (rs (om rfl (om rfl (qqa (qqo qqz rfl rfl rfl rfl qjp) (qqa (qjd qq2 rfl rfl (qqh qjp) rfl) (qqa (qqo qqz rfl rfl rfl rfl qjp) (qjo (qji qq2 rfl rfl qjp (evo rfl) rfl rfl) ?_))))))))))))
    refine on (ar (om rfl (om rfl (qqa (qqo qqz rfl rfl rfl rfl qjp) (qjo (qji qq2 rfl rfl qjp (evo rfl) rfl rfl) ?_)))))
    refine on (rs (om rfl (oa rfl (on (qj4 6 ⟨⟨_, _, rfl⟩, ⟨_, _, _, rfl⟩, trivial⟩ rfl rfl rfl ?_)))))
    refine qqm ?_
    exact ⟨[.sl _], .sl _, [.box 151 [.sl _, .p _], .row 123 5 _], [], [], ⟨rfl, trivial⟩, rfl, rfl, ⟨⟨rfl, rfl⟩, ⟨rfl, rfl⟩, trivial⟩, rfl, rfl, ⟨by unfold someV; rw [hL]; first | (rw [fin_y qjp (by assumption)]; exact congrArg V.sl (by unfold swp; rw [List.map_set, List.map_set]; rfl)) | (rw [fin_n qjp (by assumption)]; done) | (rw [fin_s qjp]; done), by unfold someV; rw [hL]; first | rw [fin_y qjp (by assumption)] | rw [fin_n qjp (by assumption)] | rw [fin_s qjp], rfl⟩⟩
   have h16r := h16
   try simp only [nq, nr, nl, qq1] at h16
   refine qqj (rs (om rfl (oa rfl (on (qj4 6 ⟨⟨_, _, rfl⟩, ⟨_, _, _, rfl⟩, trivial⟩ rfl rfl rfl ?_)))))
   refine qqm ?_
   exact ⟨[.sl _], .sl _, [.box 151 [.sl _, .p _], .row 123 5 _], [], [], ⟨rfl, trivial⟩, rfl, rfl, ⟨⟨rfl, rfl⟩, ⟨rfl, rfl⟩, trivial⟩, rfl, rfl, ⟨by unfold someV; rw [hL]; first | (rw [fin_y qjp (by assumption)]; exact congrArg V.sl (by unfold swp; rw [List.map_set, List.map_set]; rfl)) | (rw [fin_n qjp (by assumption)]; done) | (rw [fin_s qjp]; done), by unfold someV; rw [hL]; first | rw [fin_y qjp (by assumption)] | rw [fin_n qjp (by assumption)] | rw [fin_s qjp], rfl⟩⟩
  have h15r := h15
  try simp only [nq, nr, nl, qq1] at h15
  refine qqa (qqb rfl rfl h15r) (qqa (qqb rfl rfl h15r) (qqa (qqb rfl rfl h15r) (qqa (qqt rfl h15r (evo rfl)) (on (a_ff rfl ?_)))))
  refine qqj (rs (om rfl (oa rfl (on (qj4 6 ⟨⟨_, _, rfl⟩, ⟨_, _, _, rfl⟩, trivial⟩ rfl rfl rfl ?_)))))
  refine qqm ?_
  exact ⟨[.sl _], .sl _, [.box 151 [.sl _, .p _], .row 123 5 _], [], [], ⟨rfl, trivial⟩, rfl, rfl, ⟨⟨rfl, rfl⟩, ⟨rfl, rfl⟩, trivial⟩, rfl, rfl, ⟨by unfold someV; rw [hL]; first | (rw [fin_y qjp (by assumption)]; exact congrArg V.sl (by unfold swp; rw [List.map_set, List.map_set]; rfl)) | (rw [fin_n qjp (by assumption)]; done) | (rw [fin_s qjp]; done), by unfold someV; rw [hL]; first | rw [fin_y qjp (by assumption)] | rw [fin_n qjp (by assumption)] | rw [fin_s qjp], rfl⟩⟩
 have h3r := h3
 try simp only [nq, nr, nl, qq1] at h3
 refine qqa (qqb rfl rfl h3r) (qqa (qqb rfl rfl h3r) (qqa (qqb rfl rfl h3r) (qqa (qqb rfl rfl h3r) (qqa (qqb rfl rfl h3r) (qqa (qqt rfl h3r (evo rfl)) (on (a_ff rfl ?_)))))))
 refine qja (qqe (rs (om rfl (qqa (qq7 Tryz.underlying23 rfl rfl) (om rfl (qqa (qzb rfl rfl) (om rfl (qqx 61 rfl (fun h17 => ?_) (fun h17 => ?_)))))))))
 ·
  have h17r := h17
  try simp only [nq, nr, nl, qq1] at h17
  refine qqa (qqb rfl rfl h17r) (qqa (qqb rfl rfl h17r) (qqa (qqb rfl rfl h17r) (qqa (qqu rfl h17r (evo rfl)) (on (a_tt rfl ?_)))))
  refine rs (qq5 (fun ver => j_bs0 qqz qz7 rfl rfl (by decide)) fun v66x15 => ?_)
  refine oa rfl (on (rs (oa rfl (on (qqf (qqr (ι := Nat × Nat) (fun x => x.1 ≤ qju) (fun x r => (10, .p (.int .i64 ((x.1 : Nat)))) :: (7, .own 66 x.2) :: r) (fun x r => (66, some (x.2, .row 3 1 ((rangeI x.1).map dI))) :: r) (fun x => qju - x.1) (fun _ _ => rfl) (fun _ _ => rfl) (0, v66x15) (by first | exact (Nat.zero_le _) | (dsimp only; exact (Nat.zero_le _))) ⟨⟨rfl, rfl⟩, ⟨rfl, rfl, trivial⟩, ⟨rfl, trivial⟩, ⟨rfl, rfl⟩, ⟨rfl, rfl⟩⟩ ?_))))))
  rintro ⟨t, v⟩ ht; dsimp only at ht ⊢
  refine qqe (rs (om rfl (om rfl (qqa (qzb rfl rfl) (on (ac rfl (fun h18 => ?_) fun h18 => ?_))))))
  ·
   have h18r := h18
   try simp only [nq, nr, nl, qq1] at h18
   refine qqj (qqe (qqf (ar (om rfl (om rfl (qq5 (fun ver => qqw (parts := [(0, .tmp 73)]) (es := [[_]]) qqz qz7 rfl rfl (by decide) (by decide) rfl rfl (by simp) rfl) fun v74x16 => ?_))))))
   refine qq5 (fun ver => qq6 qqz qz7 rfl rfl rfl rfl rfl rfl (by rw [qq0]; first | omega | (simp only [nr, nl, qq1]; omega)) qjp) fun v66x17 => ?_
   refine oa rfl (on (ar (om rfl (qqa (qjh rfl rfl qjp qjp) (oa rfl (on ?_))))))
   exact ⟨(t + 1, v66x17), (by first | exact qjp | (dsimp only; exact qjp)), ⟨⟨rfl, rfl⟩, ⟨rfl, rfl, trivial⟩, ⟨qza (by rw [rangeI_next, List.map_append]; rfl), trivial⟩, ⟨rfl, rfl⟩, ⟨rfl, rfl⟩⟩, (by first | exact qjp | (dsimp only; exact qjp))⟩
  have h18r := h18
  try simp only [nq, nr, nl, qq1] at h18
  refine qja (qqe (qqe ?_))
  first | have hL : some3 b p s.length qju = rangeI t := (by rw [some3_y ((fill_stop (by omega)).symm.trans hpre2.2.2).symm (by omega)]; congr 1; omega) | have hL : some3 b p s.length qju = l2 := some3_n ((fill_stop (by omega)).symm.trans hpre2.2.2).symm (by omega)
  refine ar (om rfl (qqa (qq7 Tryz.underlying23 rfl rfl) (qqa (j_gt rfl rfl) (om rfl (qqx 79 rfl (fun h19 => ?_) (fun h19 => ?_))))))
  ·
   have h19r := h19
   try simp only [nq, nr, nl, qq1] at h19
   refine qqa (qqd rfl rfl h19r (qql (evo rfl))) ?_
   refine qq3 (qqd rfl rfl h19r (qqn (v := .p _) (hp1 := [(0, some (0, .box 151 [.sl _, .p _]))]) [(0, 0)] false [0] ent67 (f_pick b (p + s.length) 3 hb (by omega)) ⟨.inl ⟨rfl, rfl⟩, .inl ⟨rfl, rfl⟩, trivial⟩ ⟨⟨rfl, rfl⟩, trivial⟩ rfl rfl (fun h => by cases h) rfl (List.all_eq_true.1 rfl) (.inl rfl) rfl rfl)) ?_
   refine qqa (qqd rfl rfl h19r (qz4 rfl rfl)) (qqa (qqu rfl h19r (evo rfl)) (on (ac rfl (fun h20 => ?_) fun h20 => ?_)))
   ·
    have h20r := h20
    try simp only [nq, nr, nl, qq1] at h20
    refine rs (om rfl (qqa (qqo qqz rfl rfl rfl rfl qjp) (qqa (qjd qq2 rfl rfl (qqh qjp) rfl) (oa rfl (on (rs (om rfl (om rfl (qqa (qqo qqz rfl rfl rfl rfl qjp) (qqa (qjd qq2 rfl rfl (qqh qjp) rfl) (qqa (qqo qqz rfl rfl rfl rfl qjp) (qjo (qji qq2 rfl rfl qjp (evo rfl) rfl rfl) ?_))))))))))))
    refine on (ar (om rfl (om rfl (qqa (qqo qqz rfl rfl rfl rfl qjp) (qjo (qji qq2 rfl rfl qjp (evo rfl) rfl rfl) ?_)))))
    refine on (rs (om rfl (oa rfl (on (qj4 6 ⟨⟨_, _, rfl⟩, ⟨_, _, _, rfl⟩, trivial⟩ rfl rfl rfl ?_)))))
    refine qqm ?_
    exact ⟨[.sl _], .sl _, [.box 151 [.sl _, .p _], .row 123 5 _], [], [], ⟨rfl, trivial⟩, rfl, rfl, ⟨⟨rfl, rfl⟩, ⟨rfl, rfl⟩, trivial⟩, rfl, rfl, ⟨by unfold someV; rw [hL]; first | (rw [fin_y qjp (by assumption)]; exact congrArg V.sl (by unfold swp; rw [List.map_set, List.map_set]; rfl)) | (rw [fin_n qjp (by assumption)]; done) | (rw [fin_s qjp]; done), by unfold someV; rw [hL]; first | rw [fin_y qjp (by assumption)] | rw [fin_n qjp (by assumption)] | rw [fin_s qjp], rfl⟩⟩
   have h20r := h20
   try simp only [nq, nr, nl, qq1] at h20
   refine qqj (rs (om rfl (oa rfl (on (qj4 6 ⟨⟨_, _, rfl⟩, ⟨_, _, _, rfl⟩, trivial⟩ rfl rfl rfl ?_)))))
   refine qqm ?_
   exact ⟨[.sl _], .sl _, [.box 151 [.sl _, .p _], .row 123 5 _], [], [], ⟨rfl, trivial⟩, rfl, rfl, ⟨⟨rfl, rfl⟩, ⟨rfl, rfl⟩, trivial⟩, rfl, rfl, ⟨by unfold someV; rw [hL]; first | (rw [fin_y qjp (by assumption)]; exact congrArg V.sl (by unfold swp; rw [List.map_set, List.map_set]; rfl)) | (rw [fin_n qjp (by assumption)]; done) | (rw [fin_s qjp]; done), by unfold someV; rw [hL]; first | rw [fin_y qjp (by assumption)] | rw [fin_n qjp (by assumption)] | rw [fin_s qjp], rfl⟩⟩
  have h19r := h19
  try simp only [nq, nr, nl, qq1] at h19
  refine qqa (qqb rfl rfl h19r) (qqa (qqb rfl rfl h19r) (qqa (qqb rfl rfl h19r) (qqa (qqt rfl h19r (evo rfl)) (on (a_ff rfl ?_)))))
  refine qqj (rs (om rfl (oa rfl (on (qj4 6 ⟨⟨_, _, rfl⟩, ⟨_, _, _, rfl⟩, trivial⟩ rfl rfl rfl ?_)))))
  refine qqm ?_
  exact ⟨[.sl _], .sl _, [.box 151 [.sl _, .p _], .row 123 5 _], [], [], ⟨rfl, trivial⟩, rfl, rfl, ⟨⟨rfl, rfl⟩, ⟨rfl, rfl⟩, trivial⟩, rfl, rfl, ⟨by unfold someV; rw [hL]; first | (rw [fin_y qjp (by assumption)]; exact congrArg V.sl (by unfold swp; rw [List.map_set, List.map_set]; rfl)) | (rw [fin_n qjp (by assumption)]; done) | (rw [fin_s qjp]; done), by unfold someV; rw [hL]; first | rw [fin_y qjp (by assumption)] | rw [fin_n qjp (by assumption)] | rw [fin_s qjp], rfl⟩⟩
 have h17r := h17
 try simp only [nq, nr, nl, qq1] at h17
 refine qqa (qqd rfl rfl h17r (qql (evo rfl))) (qqa (qqd rfl rfl h17r (qq7 Tryz.underlying23 rfl rfl)) (qqa (qqd rfl rfl h17r (qz4 rfl rfl)) (qqa (qqt rfl h17r (evo rfl)) (on (ac rfl (fun h21 => ?_) fun h21 => ?_)))))
 ·
  have h21r := h21
  try simp only [nq, nr, nl, qq1] at h21
  refine rs (qq5 (fun ver => j_bs0 qqz qz7 rfl rfl (by decide)) fun v66x18 => ?_)
  refine oa rfl (on (rs (oa rfl (on (qqf (qqr (ι := Nat × Nat) (fun x => x.1 ≤ qju) (fun x r => (10, .p (.int .i64 ((x.1 : Nat)))) :: (7, .own 66 x.2) :: r) (fun x r => (66, some (x.2, .row 3 1 ((rangeI x.1).map dI))) :: r) (fun x => qju - x.1) (fun _ _ => rfl) (fun _ _ => rfl) (0, v66x18) (by first | exact (Nat.zero_le _) | (dsimp only; exact (Nat.zero_le _))) ⟨⟨rfl, rfl⟩, ⟨rfl, rfl, trivial⟩, ⟨rfl, trivial⟩, ⟨rfl, rfl⟩, ⟨rfl, rfl⟩⟩ ?_))))))
  rintro ⟨t, v⟩ ht; dsimp only at ht ⊢
  refine qqe (rs (om rfl (om rfl (qqa (qzb rfl rfl) (on (ac rfl (fun h22 => ?_) fun h22 => ?_))))))
  ·
   have h22r := h22
   try simp only [nq, nr, nl, qq1] at h22
   refine qqj (qqe (qqf (ar (om rfl (om rfl (qq5 (fun ver => qqw (parts := [(0, .tmp 73)]) (es := [[_]]) qqz qz7 rfl rfl (by decide) (by decide) rfl rfl (by simp) rfl) fun v74x19 => ?_))))))
   refine qq5 (fun ver => qq6 qqz qz7 rfl rfl rfl rfl rfl rfl (by rw [qq0]; first | omega | (simp only [nr, nl, qq1]; omega)) qjp) fun v66x20 => ?_
   refine oa rfl (on (ar (om rfl (qqa (qjh rfl rfl qjp qjp) (oa rfl (on ?_))))))
   exact ⟨(t + 1, v66x20), (by first | exact qjp | (dsimp only; exact qjp)), ⟨⟨rfl, rfl⟩, ⟨rfl, rfl, trivial⟩, ⟨qza (by rw [rangeI_next, List.map_append]; rfl), trivial⟩, ⟨rfl, rfl⟩, ⟨rfl, rfl⟩⟩, (by first | exact qjp | (dsimp only; exact qjp))⟩
  have h22r := h22
  try simp only [nq, nr, nl, qq1] at h22
  refine qja (qqe (qqe ?_))
  first | have hL : some3 b p s.length qju = rangeI t := (by rw [some3_y ((fill_stop (by omega)).symm.trans hpre2.2.2).symm (by omega)]; congr 1; omega) | have hL : some3 b p s.length qju = l2 := some3_n ((fill_stop (by omega)).symm.trans hpre2.2.2).symm (by omega)
  refine ar (om rfl (qqa (qq7 Tryz.underlying23 rfl rfl) (qqa (j_gt rfl rfl) (om rfl (qqx 79 rfl (fun h23 => ?_) (fun h23 => ?_))))))
  ·
   have h23r := h23
   try simp only [nq, nr, nl, qq1] at h23
   refine qqa (qqd rfl rfl h23r (qql (evo rfl))) ?_
   refine qq3 (qqd rfl rfl h23r (qqn (v := .p _) (hp1 := [(0, some (0, .box 151 [.sl _, .p _]))]) [(0, 0)] false [0] ent67 (f_pick b (p + s.length) 3 hb (by omega)) ⟨.inl ⟨rfl, rfl⟩, .inl ⟨rfl, rfl⟩, trivial⟩ ⟨⟨rfl, rfl⟩, trivial⟩ rfl rfl (fun h => by cases h) rfl (List.all_eq_true.1 rfl) (.inl rfl) rfl rfl)) ?_
   refine qqa (qqd rfl rfl h23r (qz4 rfl rfl)) (qqa (qqu rfl h23r (evo rfl)) (on (ac rfl (fun h24 => ?_) fun h24 => ?_)))
   ·
    have h24r := h24
    try simp only [nq, nr, nl, qq1] at h24
    refine rs (om rfl (qqa (qqo qqz rfl rfl rfl rfl qjp) (qqa (qjd qq2 rfl rfl (qqh qjp) rfl) (oa rfl (on (rs (om rfl (om rfl (qqa (qqo qqz rfl rfl rfl rfl qjp) (qqa (qjd qq2 rfl rfl (qqh qjp) rfl) (qqa (qqo qqz rfl rfl rfl rfl qjp) (qjo (qji qq2 rfl rfl qjp (evo rfl) rfl rfl) ?_))))))))))))
    refine on (ar (om rfl (om rfl (qqa (qqo qqz rfl rfl rfl rfl qjp) (qjo (qji qq2 rfl rfl qjp (evo rfl) rfl rfl) ?_)))))
    refine on (rs (om rfl (oa rfl (on (qj4 6 ⟨⟨_, _, rfl⟩, ⟨_, _, _, rfl⟩, trivial⟩ rfl rfl rfl ?_)))))
    refine qqm ?_
    exact ⟨[.sl _], .sl _, [.box 151 [.sl _, .p _], .row 123 5 _], [], [], ⟨rfl, trivial⟩, rfl, rfl, ⟨⟨rfl, rfl⟩, ⟨rfl, rfl⟩, trivial⟩, rfl, rfl, ⟨by unfold someV; rw [hL]; first | (rw [fin_y qjp (by assumption)]; exact congrArg V.sl (by unfold swp; rw [List.map_set, List.map_set]; rfl)) | (rw [fin_n qjp (by assumption)]; done) | (rw [fin_s qjp]; done), by unfold someV; rw [hL]; first | rw [fin_y qjp (by assumption)] | rw [fin_n qjp (by assumption)] | rw [fin_s qjp], rfl⟩⟩
   have h24r := h24
   try simp only [nq, nr, nl, qq1] at h24
   refine qqj (rs (om rfl (oa rfl (on (qj4 6 ⟨⟨_, _, rfl⟩, ⟨_, _, _, rfl⟩, trivial⟩ rfl rfl rfl ?_)))))
   refine qqm ?_
   exact ⟨[.sl _], .sl _, [.box 151 [.sl _, .p _], .row 123 5 _], [], [], ⟨rfl, trivial⟩, rfl, rfl, ⟨⟨rfl, rfl⟩, ⟨rfl, rfl⟩, trivial⟩, rfl, rfl, ⟨by unfold someV; rw [hL]; first | (rw [fin_y qjp (by assumption)]; exact congrArg V.sl (by unfold swp; rw [List.map_set, List.map_set]; rfl)) | (rw [fin_n qjp (by assumption)]; done) | (rw [fin_s qjp]; done), by unfold someV; rw [hL]; first | rw [fin_y qjp (by assumption)] | rw [fin_n qjp (by assumption)] | rw [fin_s qjp], rfl⟩⟩
  have h23r := h23
  try simp only [nq, nr, nl, qq1] at h23
  refine qqa (qqb rfl rfl h23r) (qqa (qqb rfl rfl h23r) (qqa (qqb rfl rfl h23r) (qqa (qqt rfl h23r (evo rfl)) (on (a_ff rfl ?_)))))
  refine qqj (rs (om rfl (oa rfl (on (qj4 6 ⟨⟨_, _, rfl⟩, ⟨_, _, _, rfl⟩, trivial⟩ rfl rfl rfl ?_)))))
  refine qqm ?_
  exact ⟨[.sl _], .sl _, [.box 151 [.sl _, .p _], .row 123 5 _], [], [], ⟨rfl, trivial⟩, rfl, rfl, ⟨⟨rfl, rfl⟩, ⟨rfl, rfl⟩, trivial⟩, rfl, rfl, ⟨by unfold someV; rw [hL]; first | (rw [fin_y qjp (by assumption)]; exact congrArg V.sl (by unfold swp; rw [List.map_set, List.map_set]; rfl)) | (rw [fin_n qjp (by assumption)]; done) | (rw [fin_s qjp]; done), by unfold someV; rw [hL]; first | rw [fin_y qjp (by assumption)] | rw [fin_n qjp (by assumption)] | rw [fin_s qjp], rfl⟩⟩
 have h21r := h21
 try simp only [nq, nr, nl, qq1] at h21
 refine qqj (qqe (qqe ?_))
 first | have hL : some3 b p s.length qju = rangeI t := (by rw [some3_y ((fill_stop (by omega)).symm.trans hpre2.2.2).symm (by omega)]; congr 1; omega) | have hL : some3 b p s.length qju = l2 := some3_n ((fill_stop (by omega)).symm.trans hpre2.2.2).symm (by omega)
 refine ar (om rfl (qqa (qq7 Tryz.underlying23 rfl rfl) (qqa (j_gt rfl rfl) (om rfl (qqx 79 rfl (fun h25 => ?_) (fun h25 => ?_))))))
 ·
  have h25r := h25
  try simp only [nq, nr, nl, qq1] at h25
  refine qqa (qqd rfl rfl h25r (qql (evo rfl))) ?_
  refine qq3 (qqd rfl rfl h25r (qqn (v := .p _) (hp1 := [(0, some (0, .box 151 [.sl _, .p _]))]) [(0, 0)] false [0] ent67 (f_pick b (p + s.length) 3 hb (by omega)) ⟨.inl ⟨rfl, rfl⟩, .inl ⟨rfl, rfl⟩, trivial⟩ ⟨⟨rfl, rfl⟩, trivial⟩ rfl rfl (fun h => by cases h) rfl (List.all_eq_true.1 rfl) (.inl rfl) rfl rfl)) ?_
  refine qqa (qqd rfl rfl h25r (qz4 rfl rfl)) (qqa (qqu rfl h25r (evo rfl)) (on (ac rfl (fun h26 => ?_) fun h26 => ?_)))
  ·
   have h26r := h26
   try simp only [nq, nr, nl, qq1] at h26
   refine rs (om rfl (qqa (qqo qqz rfl rfl rfl rfl qjp) (qqa (qjd qq2 rfl rfl (qqh qjp) rfl) (oa rfl (on (rs (om rfl (om rfl (qqa (qqo qqz rfl rfl rfl rfl qjp) (qqa (qjd qq2 rfl rfl (qqh qjp) rfl) (qqa (qqo qqz rfl rfl rfl rfl qjp) (qjo (qji qq2 rfl rfl qjp (evo rfl) rfl rfl) ?_))))))))))))
   refine on (ar (om rfl (om rfl (qqa (qqo qqz rfl rfl rfl rfl qjp) (qjo (qji qq2 rfl rfl qjp (evo rfl) rfl rfl) ?_)))))
   refine on (rs (om rfl (oa rfl (on (qj4 6 ⟨⟨_, _, rfl⟩, ⟨_, _, _, rfl⟩, trivial⟩ rfl rfl rfl ?_)))))
   refine qqm ?_
   exact ⟨[.sl _], .sl _, [.box 151 [.sl _, .p _], .row 123 5 _], [], [], ⟨rfl, trivial⟩, rfl, rfl, ⟨⟨rfl, rfl⟩, ⟨rfl, rfl⟩, trivial⟩, rfl, rfl, ⟨by unfold someV; rw [hL]; first | (rw [fin_y qjp (by assumption)]; exact congrArg V.sl (by unfold swp; rw [List.map_set, List.map_set]; rfl)) | (rw [fin_n qjp (by assumption)]; done) | (rw [fin_s qjp]; done), by unfold someV; rw [hL]; first | rw [fin_y qjp (by assumption)] | rw [fin_n qjp (by assumption)] | rw [fin_s qjp], rfl⟩⟩
  have h26r := h26
  try simp only [nq, nr, nl, qq1] at h26
  refine qqj (rs (om rfl (oa rfl (on (qj4 6 ⟨⟨_, _, rfl⟩, ⟨_, _, _, rfl⟩, trivial⟩ rfl rfl rfl ?_)))))
  refine qqm ?_
  exact ⟨[.sl _], .sl _, [.box 151 [.sl _, .p _], .row 123 5 _], [], [], ⟨rfl, trivial⟩, rfl, rfl, ⟨⟨rfl, rfl⟩, ⟨rfl, rfl⟩, trivial⟩, rfl, rfl, ⟨by unfold someV; rw [hL]; first | (rw [fin_y qjp (by assumption)]; exact congrArg V.sl (by unfold swp; rw [List.map_set, List.map_set]; rfl)) | (rw [fin_n qjp (by assumption)]; done) | (rw [fin_s qjp]; done), by unfold someV; rw [hL]; first | rw [fin_y qjp (by assumption)] | rw [fin_n qjp (by assumption)] | rw [fin_s qjp], rfl⟩⟩
 have h25r := h25
 try simp only [nq, nr, nl, qq1] at h25
 refine qqa (qqb rfl rfl h25r) (qqa (qqb rfl rfl h25r) (qqa (qqb rfl rfl h25r) (qqa (qqt rfl h25r (evo rfl)) (on (a_ff rfl ?_)))))
 refine qqj (rs (om rfl (oa rfl (on (qj4 6 ⟨⟨_, _, rfl⟩, ⟨_, _, _, rfl⟩, trivial⟩ rfl rfl rfl ?_)))))
 refine qqm ?_
 exact ⟨[.sl _], .sl _, [.box 151 [.sl _, .p _], .row 123 5 _], [], [], ⟨rfl, trivial⟩, rfl, rfl, ⟨⟨rfl, rfl⟩, ⟨rfl, rfl⟩, trivial⟩, rfl, rfl, ⟨by unfold someV; rw [hL]; first | (rw [fin_y qjp (by assumption)]; exact congrArg V.sl (by unfold swp; rw [List.map_set, List.map_set]; rfl)) | (rw [fin_n qjp (by assumption)]; done) | (rw [fin_s qjp]; done), by unfold someV; rw [hL]; first | rw [fin_y qjp (by assumption)] | rw [fin_n qjp (by assumption)] | rw [fin_s qjp], rfl⟩⟩
theorem f_l6Draw (b : List Int) (p : Nat) (s : List Int) (l : List Rl) (hb : okB b) (hp : p ≤ 1099511620000) (hs : s.length ≤ 5) : Fn Tryz.prog 194 [.ptr 0 0 0, .agg [.sl (s.map dI), .own 1 0]] [.box 151 [.sl (b.map dU), .p (.int .i64 ((p : Nat) : Int))], .row 123 5 ((l).map dR)] (fun rr ii nn => rr = .agg [.p (.int .i64 (drawR b p s.length).1.1), .sl ((drawR b p s.length).1.2.1.map dI), .sl ((drawR b p s.length).1.2.2.1.map dI), .p (.int .i64 (drawR b p s.length).1.2.2.2.1), .sl ((drawR b p s.length).1.2.2.2.2.map dL)] ∧ ii = [.box 151 [.sl (b.map dU), .p (.int .i64 (((drawR b p s.length).2 : Nat) : Int))], .row 123 5 ((l).map dR)] ∧ nn = []) := by
 refine qjm Tryz.func194 rfl (nb rfl) fun w X g => ?_
 show AWp _ _ _ ⟨[(0, .ptr 0 0 0), (1, .agg [.sl (s.map dI), .own 1 0])], [(0, some (0, .box 151 [.sl (b.map dU), .p (.int .i64 ((p : Nat) : Int))])), (1, some (0, .row 123 5 ((l).map dR)))]⟩
 have hv1 := someV_ok (b := b) (p := p + 1) (n := s.length) (qju := 1)
 have hv2 := someV_ok (b := b) (p := (someV b (p + 1) s.length 1).2) (n := s.length) (qju := 2)
 have hz : (0 : Int) ≤ ofV b ((someV b (p + 1) s.length 1).2) ([3, 4, 2, 6, 0, 8] : List Int) ∧ ofV b ((someV b (p + 1) s.length 1).2) ([3, 4, 2, 6, 0, 8] : List Int) ≤ 8 := ofV_in (l := [3, 4, 2, 6, 0, 8]) (lo := 0) (hi := 8) (by decide) (by decide)
 refine rs (qq5 (fun ver => qj3 rfl) fun v3x1 => ?_)
 refine qq5 (fun ver => qjv elt123 rfl) fun v4x2 => ?_
 refine on (rs (om rfl (qq5 (fun ver => qqw (parts := [(0, .const (.int .i64 1)), (1, .const (.int .i64 2)), (2, .const (.int .i64 3)), (3, .const (.int .i64 4)), (4, .const (.int .i64 1))]) (es := [[_], [_], [_], [_], [_]]) qqz qz7 rfl rfl (by decide) (by decide) rfl rfl (by simp) rfl) fun v11x3 => ?_)))
 refine qq3 (qqn (v := .p _) (hp1 := [(0, some (0, .box 151 [.sl _, .p _])), (11, some (v11x3, .row 3 1 _))]) [(0, 0), (11, v11x3)] false [0, 11] ent130 (f_num b (p) [1, 2, 3, 4, 1] hb (by omega) (by decide) (by decide)) ⟨.inl ⟨rfl, rfl⟩, .inl ⟨rfl, rfl⟩, trivial⟩ ⟨⟨rfl, rfl⟩, ⟨rfl, rfl⟩, trivial⟩ rfl rfl (fun h => by cases h) rfl (List.all_eq_true.1 rfl) (.inl rfl) rfl rfl) ?_
 refine qqa (qzu (parts := [(0, .tmp 12)]) str123 elt123 rfl rfl) (qq5 (fun ver => qjv elt123 rfl) fun v5x4 => ?_)
 refine qjo (qqs qzd rfl rfl rfl rfl rfl rfl) ?_
 refine on (qj2 2 1005 3 1 (by decide) (id := 5) rfl rfl fun v1005x5 => ?_)
 refine qj2 4 1006 23 1 (by decide) (id := 5) rfl rfl fun v1006x6 => ?_
 refine rs (om rfl (qqa (qqk (ys := [.sl _, .own 1 0]) qjw rfl rfl rfl (nb rfl)) ?_))
 refine qq3 (qqn (v := .sl _) (hp1 := [(0, some (0, .box 151 [.sl _, .p _])), (1, some (0, .row 123 5 _))]) [(0, 0), (1, 0)] false [0, 1] ent243 (f_l6Some b (p + 1) s l 1 hb (by omega) (by omega) (by omega)) ⟨.inl ⟨rfl, rfl⟩, .inl ⟨rfl, rfl⟩, .inl ⟨rfl, rfl⟩, trivial⟩ ⟨⟨rfl, rfl⟩, ⟨rfl, rfl⟩, trivial⟩ rfl rfl (fun h => by cases h) rfl (List.all_eq_true.1 rfl) (.inl rfl) rfl rfl) ?_
 refine qqa (qqi qjy rfl rfl) (qjo (qje qq9 rfl rfl (nb rfl) (evo rfl) rfl) ?_)
 refine on (qqe (rs (qqa (qqi qzc rfl rfl) (qqa (qqc qq2 rfl rfl rfl) (on (qqf (rs (qqa (qz4 rfl rfl) (oa rfl (on (ac rfl (fun h1 => ?_) fun h1 => ?_)))))))))))
 ·
  have h1r := h1
  try simp only [nq, nr, nl, cfV_len, qz1, qz2] at h1
  refine qqe (rs (oa rfl (on (qqf (qqr (ι := Nat × Nat) (fun x => x.1 ≤ (someV b (p + 1) s.length 1).1.length) (fun x r => (6, .p (.int .i64 ((x.1 : Nat)))) :: r) (fun x r => (0, some (0, .box 151 [.sl (b.map dU), .p (.int .i64 (((someV b (p + 1) s.length 1).2 + x.1 : Nat) : Int))])) :: (5, some (v5x4, .box 123 [.p (.int .i64 (kdV b p)), .sl ((someV b (p + 1) s.length 1).1.map dI), .own 1005 x.2, .p (.int .i64 0), .own 1006 v1006x6])) :: (1005, some (x.2, .row 3 1 ((cfV b (someV b (p + 1) s.length 1).2 x.1).map dI))) :: r) (fun x => (someV b (p + 1) s.length 1).1.length - x.1) (fun _ _ => rfl) (fun _ _ => rfl) (0, v1005x5) (by first | exact (Nat.zero_le _) | (dsimp only; exact (Nat.zero_le _))) ⟨⟨rfl, rfl⟩, ⟨rfl, trivial⟩, ⟨rfl, rfl, rfl, trivial⟩, ⟨rfl, rfl⟩, ⟨rfl, rfl⟩⟩ ?_)))))
  rintro ⟨k, v⟩ hk; dsimp only at hk ⊢
  refine qqe (rs (om rfl (qqa (qqi qjy rfl rfl) (qqa (qqc qq9 rfl rfl rfl) (qqa (qqg Tryz.underlying23 rfl) (qqa (qzb rfl rfl) (on (ac rfl (fun h2 => ?_) fun h2 => ?_))))))))
  ·
   have h2r := h2
   try simp only [nq, nr, nl, cfV_len, qz1, qz2] at h2
   refine qqj (qqe (qqf (qjz qzj (by kernel_rfl) (by kernel_rfl) fun vf => ?_)))
   refine qqq (qqi qzk rfl rfl) (qqq (qqc qq9 rfl rfl rfl) (qqq (qql (evo rfl)) (d_n' (fun ver => qqw (parts := [(0, .const (.int .i64 1)), (1, .const (.int .i64 (-1))), (2, .const (.int .i64 2)), (3, .const (.int .i64 1)), (4, .const (.int .i64 (-2))), (5, .const (.int .i64 3))]) (es := [[_], [_], [_], [_], [_], [_]]) qqz qz7 rfl rfl (by decide) (by decide) rfl rfl (by simp) rfl) ?_)))
   refine d_v0' (qqn (v := .p _) (hp1 := [(0, some (0, .box 151 [.sl _, .p _])), (32, some ((vf 32), .row 3 1 _))]) [(0, 0), (32, (vf 32))] false [0, 32] ent130 (f_num b ((someV b (p + 1) s.length 1).2 + k) [1, -1, 2, 1, -2, 3] hb (by omega) (by decide) (by decide)) ⟨.inl ⟨rfl, rfl⟩, .inl ⟨rfl, rfl⟩, trivial⟩ ⟨⟨rfl, rfl⟩, ⟨rfl, rfl⟩, trivial⟩ rfl rfl (fun h => by cases h) rfl (List.all_eq_true.1 rfl) (.inl rfl) rfl rfl) ?_
   refine d_n' (fun ver => qqw (parts := [(0, .tmp 33)]) (es := [[_]]) qqz qz7 rfl rfl (by decide) (by decide) rfl rfl (by simp) rfl) ?_
   refine d_n' (fun ver => qq6 qqz qz7 rfl rfl rfl rfl rfl rfl (by rw [qq0]; first | omega | (simp only [nr, nl, cfV_len, qz1, qz2]; omega)) zau2) ?_
   refine qqq (qqi qzk rfl rfl) (d_s' (qje qq9 rfl rfl (nb rfl) (evo rfl) rfl) ?_)
   refine qze (by kernel_rfl) (by kernel_rfl) ?_
   refine ar (om rfl (qqa (qjh rfl rfl zau2 zau2) (oa rfl (on ?_))))
   exact ⟨(k + 1, (vf 1005)), (by first | exact zau2 | (dsimp only; exact zau2)), ⟨⟨rfl, rfl⟩, ⟨rfl, trivial⟩, ⟨rfl, rfl, qza (by rw [cfV_next, List.map_append]; rfl), trivial⟩, ⟨rfl, rfl⟩, ⟨rfl, rfl⟩⟩, (by first | exact zau2 | (dsimp only; exact zau2))⟩
  have h2r := h2
  try simp only [nq, nr, nl, cfV_len, qz1, qz2] at h2
  refine qja (ar (om rfl (qq5 (fun ver => qqw (parts := [(0, .const (.int .i64 1)), (1, .const (.int .i64 2)), (2, .const (.int .i64 0)), (3, .const (.int .i64 (-1))), (4, .const (.int .i64 3)), (5, .const (.int .i64 (-3))), (6, .const (.int .i64 4))]) (es := [[_], [_], [_], [_], [_], [_], [_]]) qqz qz7 rfl rfl (by decide) (by decide) rfl rfl (by simp) rfl) fun v38x7 => ?_)))
  refine qq3 (qqn (v := .p _) (hp1 := [(0, some (0, .box 151 [.sl _, .p _])), (38, some (v38x7, .row 3 1 _))]) [(0, 0), (38, v38x7)] false [0, 38] ent130 (f_num b ((someV b (p + 1) s.length 1).2 + k) [1, 2, 0, -1, 3, -3, 4] hb (by omega) (by decide) (by decide)) ⟨.inl ⟨rfl, rfl⟩, .inl ⟨rfl, rfl⟩, trivial⟩ ⟨⟨rfl, rfl⟩, ⟨rfl, rfl⟩, trivial⟩ rfl rfl (fun h => by cases h) rfl (List.all_eq_true.1 rfl) (.inl rfl) rfl rfl) ?_
  refine qqa (qqi fld123f3 rfl rfl) (qjo (qje qq2 rfl rfl (nb rfl) (evo rfl) rfl) ?_)
  refine on (qqe (qjf 2 5 (by decide) ⟨⟨_, _, rfl⟩, ⟨_, _, _, rfl⟩, trivial⟩ rfl rfl rfl rfl ?_))
  try dsimp only [List.set]
  refine qjf 4 5 (by decide) ⟨⟨_, _, rfl⟩, ⟨_, _, _, rfl⟩, trivial⟩ rfl rfl rfl rfl ?_
  try dsimp only [List.set]
  first | (have hq := drawR_1 (n := s.length) (show kdV b p = 1 by assumption); rw [show k = (someV b (p + 1) s.length 1).1.length by omega]) | (have hq := drawR_3 (n := s.length) (show kdV b p = 3 by assumption); rw [show i = (ofV b (someV b (p + 1) s.length 1).2 ([3, 4, 2, 6, 0, 8] : List Int)).toNat by omega]) | have hq := drawR_4 (n := s.length) (show kdV b p = 4 by assumption) | have hq := drawR_0 (n := s.length) (b := b) (p := p) (by assumption) (by assumption) (by assumption)
  refine ar (qqa (qqk (ys := [.p _, .sl _, .sl _, .p _, .sl _]) qzd rfl rfl rfl (nb rfl)) (qjo (qqs qzd rfl rfl rfl rfl rfl rfl) ?_))
  refine on (qqm ?_)
  exact ⟨[.agg [.p _, .sl _, .sl _, .p _, .sl _]], .agg [.p _, .sl _, .sl _, .p _, .sl _], [.box 151 [.sl _, .p _], .row 123 5 _], [], [], ⟨⟨_, _, _, _, rfl, rfl, qzd, rfl⟩, trivial⟩, rfl, rfl, ⟨⟨rfl, rfl⟩, ⟨rfl, rfl⟩, trivial⟩, rfl, rfl, ⟨by rw [hq]; first | rfl | (rw [← List.map_take]; rfl), by rw [hq], rfl⟩⟩
 have h1r := h1
 try simp only [nq, nr, nl, cfV_len, qz1, qz2] at h1
 refine rs (qqa (qz4 rfl rfl) (oa rfl (on (ac rfl (fun h3 => ?_) fun h3 => ?_))))
 ·
  have h3r := h3
  try simp only [nq, nr, nl, cfV_len, qz1, qz2] at h3
  refine rs (om rfl (qq5 (fun ver => qqw (parts := [(0, .const (.int .i64 3)), (1, .const (.int .i64 4)), (2, .const (.int .i64 2)), (3, .const (.int .i64 6)), (4, .const (.int .i64 0)), (5, .const (.int .i64 8))]) (es := [[_], [_], [_], [_], [_], [_]]) qqz qz7 rfl rfl (by decide) (by decide) rfl rfl (by simp) rfl) fun v44x8 => ?_))
  refine qq3 (qqn (v := .p _) (hp1 := [(0, some (0, .box 151 [.sl _, .p _])), (44, some (v44x8, .row 3 1 _))]) [(0, 0), (44, v44x8)] false [0, 44] ent130 (f_num b ((someV b (p + 1) s.length 1).2) [3, 4, 2, 6, 0, 8] hb (by omega) (by decide) (by decide)) ⟨.inl ⟨rfl, rfl⟩, .inl ⟨rfl, rfl⟩, trivial⟩ ⟨⟨rfl, rfl⟩, ⟨rfl, rfl⟩, trivial⟩ rfl rfl (fun h => by cases h) rfl (List.all_eq_true.1 rfl) (.inl rfl) rfl rfl) ?_
  refine oa rfl (on (qqf ?_))
  refine qqr (ι := Nat × Nat) (fun x => (x.1 : Int) ≤ (ofV b (someV b (p + 1) s.length 1).2 ([3, 4, 2, 6, 0, 8] : List Int)) ∧ x.1 * (someV b (p + 1) s.length 1).1.length ≤ 8 * 11) (fun x r => (7, .p (.int .i64 ((ofV b (someV b (p + 1) s.length 1).2 ([3, 4, 2, 6, 0, 8] : List Int)) - (x.1 : Nat)))) :: r) (fun x r => (0, some (0, .box 151 [.sl (b.map dU), .p (.int .i64 (((someV b (p + 1) s.length 1).2 + 1 + x.1 * (someV b (p + 1) s.length 1).1.length : Nat) : Int))])) :: (5, some (v5x4, .box 123 [.p (.int .i64 (kdV b p)), .sl ((someV b (p + 1) s.length 1).1.map dI), .own 1005 v1005x5, .p (.int .i64 0), .own 1006 x.2])) :: (1006, some (x.2, .row 23 1 ((tabV b ((someV b (p + 1) s.length 1).2 + 1) (someV b (p + 1) s.length 1).1.length x.1).map dL))) :: r) (fun x => ((ofV b (someV b (p + 1) s.length 1).2 ([3, 4, 2, 6, 0, 8] : List Int)) - (x.1 : Nat)).toNat) (fun _ _ => rfl) (fun _ _ => rfl) (0, v1006x6) (by first | exact ⟨by omega, by omega⟩ | (dsimp only; exact ⟨by omega, by omega⟩)) ⟨⟨rfl, rfl⟩, ⟨qzg (by omega), trivial⟩, ⟨boxP (by simp), rfl, rfl, trivial⟩, ⟨rfl, rfl⟩, ⟨rfl, rfl⟩⟩ ?_
  rintro ⟨i, v⟩ hi; dsimp only at hi ⊢
  refine qqe (rs (om rfl (qqa (j_gt rfl rfl) (on (ac rfl (fun h4 => ?_) fun h4 => ?_)))))
  ·
   have h4r := h4
   try simp only [nq, nr, nl, cfV_len, qz1, qz2] at h4
   refine qqj (qqe (qqf (rs (qq5 (fun ver => j_bs0 qqz qz7 rfl rfl (by decide)) fun v50x9 => ?_))))
   refine oa rfl (on (qqe (rs (oa rfl (on (qqf (qqr (ι := Nat × Nat) (fun x => x.1 ≤ (someV b (p + 1) s.length 1).1.length) (fun x r => (9, .p (.int .i64 ((x.1 : Nat)))) :: (8, .own 50 x.2) :: r) (fun x r => (0, some (0, .box 151 [.sl (b.map dU), .p (.int .i64 (((someV b (p + 1) s.length 1).2 + 1 + i * (someV b (p + 1) s.length 1).1.length + x.1 : Nat) : Int))])) :: (50, some (x.2, .row 3 1 ((rowV b ((someV b (p + 1) s.length 1).2 + 1 + i * (someV b (p + 1) s.length 1).1.length) x.1).map dI))) :: r) (fun x => (someV b (p + 1) s.length 1).1.length - x.1) (fun _ _ => rfl) (fun _ _ => rfl) (0, v50x9) (by first | exact (Nat.zero_le _) | (dsimp only; exact (Nat.zero_le _))) ⟨⟨rfl, rfl⟩, ⟨rfl, rfl, trivial⟩, ⟨rfl, rfl, trivial⟩, ⟨rfl, rfl⟩, ⟨rfl, rfl⟩⟩ ?_)))))))
   rintro ⟨j, w⟩ hj; dsimp only at hj ⊢
   refine qqe (rs (om rfl (qqa (qqi qjy rfl rfl) (qqa (qqc qq9 rfl rfl rfl) (qqa (qqg Tryz.underlying23 rfl) (qqa (qzb rfl rfl) (on (ac rfl (fun h5 => ?_) fun h5 => ?_))))))))
   ·
    have h5r := h5
    try simp only [nq, nr, nl, cfV_len, qz1, qz2] at h5
    refine qqj (qqe (qqf (ar (om rfl (om rfl ?_)))))
    refine qq3 (qqn (v := .p _) (hp1 := [(0, some (0, .box 151 [.sl _, .p _]))]) [(0, 0)] false [0] ent67 (f_pick b ((someV b (p + 1) s.length 1).2 + 1 + i * (someV b (p + 1) s.length 1).1.length + j) 4 hb (by omega)) ⟨.inl ⟨rfl, rfl⟩, .inl ⟨rfl, rfl⟩, trivial⟩ ⟨⟨rfl, rfl⟩, trivial⟩ rfl rfl (fun h => by cases h) rfl (List.all_eq_true.1 rfl) (.inl rfl) rfl rfl) ?_
    refine qq5 (fun ver => qqw (parts := [(0, .tmp 60)]) (es := [[_]]) qqz qz7 rfl rfl (by decide) (by decide) rfl rfl (by simp) rfl) fun v61x10 => ?_
    refine qq5 (fun ver => qq6 qqz qz7 rfl rfl rfl rfl rfl rfl (by rw [qq0]; first | omega | (simp only [nr, nl, cfV_len, qz1, qz2]; omega)) zau2) fun v50x11 => ?_
    refine oa rfl (on (ar (om rfl (qqa (qjh rfl rfl zau2 zau2) (oa rfl (on ?_))))))
    exact ⟨(j + 1, v50x11), (by first | exact zau2 | (dsimp only; exact zau2)), ⟨⟨rfl, rfl⟩, ⟨rfl, rfl, trivial⟩, ⟨rfl, qza (by rw [rowV_next, List.map_append]; rfl), trivial⟩, ⟨rfl, rfl⟩, ⟨rfl, rfl⟩⟩, (by first | exact zau2 | (dsimp only; exact zau2))⟩
   have h5r := h5
   try simp only [nq, nr, nl, cfV_len, qz1, qz2] at h5
   refine qja (qj4 8 ⟨⟨_, _, rfl⟩, ⟨_, _, _, rfl⟩, trivial⟩ rfl rfl rfl ?_)
   refine ar (qqa (qqi qj5 rfl rfl) (qqa (qqc qzi rfl rfl rfl) (om rfl (qq5 (fun ver => qqw (parts := [(0, .tmp 65)]) (es := [[_]]) slt107 elt23 rfl rfl (by decide) (by decide) rfl rfl (by simp) rfl) fun v66x12 => ?_))))
   refine qq5 (fun ver => qq6 slt107 elt23 rfl rfl rfl rfl rfl rfl (by rw [qq0]; first | omega | (simp only [nr, nl, cfV_len, qz1, qz2]; omega)) zau2) fun v1006x13 => ?_
   refine qqa (qqi qj5 rfl rfl) (qjo (qje qzi rfl rfl (nb rfl) (evo rfl) rfl) ?_)
   refine on (ar (om rfl (qqa (qzy rfl rfl zau2 zau2) (oa rfl (on ?_)))))
   exact ⟨(i + 1, v1006x13), (by first | exact ⟨by dsimp only; omega, Nat.mul_le_mul (by dsimp only; omega) (by omega)⟩ | (dsimp only; exact ⟨by dsimp only; omega, Nat.mul_le_mul (by dsimp only; omega) (by omega)⟩)), ⟨⟨rfl, rfl⟩, ⟨qzg (by omega), trivial⟩, ⟨boxP (by rw [Nat.add_mul, Nat.one_mul]; omega), rfl, qza (by rw [show j = (someV b (p + 1) s.length 1).1.length by omega, tabV_next, List.map_append]; rfl), trivial⟩, ⟨rfl, rfl⟩, ⟨rfl, rfl⟩⟩, (by first | exact (by omega) | (dsimp only; exact (by omega)))⟩
  have h4r := h4
  try simp only [nq, nr, nl, cfV_len, qz1, qz2] at h4
  refine qja (qqe (qjf 2 5 (by decide) ⟨⟨_, _, rfl⟩, ⟨_, _, _, rfl⟩, trivial⟩ rfl rfl rfl rfl ?_))
  try dsimp only [List.set]
  refine qjf 4 5 (by decide) ⟨⟨_, _, rfl⟩, ⟨_, _, _, rfl⟩, trivial⟩ rfl rfl rfl rfl ?_
  try dsimp only [List.set]
  first | (have hq := drawR_1 (n := s.length) (show kdV b p = 1 by assumption); rw [show k = (someV b (p + 1) s.length 1).1.length by omega]) | (have hq := drawR_3 (n := s.length) (show kdV b p = 3 by assumption); rw [show i = (ofV b (someV b (p + 1) s.length 1).2 ([3, 4, 2, 6, 0, 8] : List Int)).toNat by omega]) | have hq := drawR_4 (n := s.length) (show kdV b p = 4 by assumption) | have hq := drawR_0 (n := s.length) (b := b) (p := p) (by assumption) (by assumption) (by assumption)
  refine ar (qqa (qqk (ys := [.p _, .sl _, .sl _, .p _, .sl _]) qzd rfl rfl rfl (nb rfl)) (qjo (qqs qzd rfl rfl rfl rfl rfl rfl) ?_))
  refine on (qqm ?_)
  exact ⟨[.agg [.p _, .sl _, .sl _, .p _, .sl _]], .agg [.p _, .sl _, .sl _, .p _, .sl _], [.box 151 [.sl _, .p _], .row 123 5 _], [], [], ⟨⟨_, _, _, _, rfl, rfl, qzd, rfl⟩, trivial⟩, rfl, rfl, ⟨⟨rfl, rfl⟩, ⟨rfl, rfl⟩, trivial⟩, rfl, rfl, ⟨by rw [hq]; first | rfl | (rw [← List.map_take]; rfl), by rw [hq], rfl⟩⟩
 have h3r := h3
 try simp only [nq, nr, nl, cfV_len, qz1, qz2] at h3
 refine rs (qqa (qz4 rfl rfl) (oa rfl (on (ac rfl (fun h6 => ?_) fun h6 => ?_))))
 ·
  have h6r := h6
  try simp only [nq, nr, nl, cfV_len, qz1, qz2] at h6
  refine ar (om rfl (qqa (qqk (ys := [.sl _, .own 1 0]) qjw rfl rfl rfl (nb rfl)) ?_))
  refine qq3 (qqn (v := .sl _) (hp1 := [(0, some (0, .box 151 [.sl _, .p _])), (1, some (0, .row 123 5 _))]) [(0, 0), (1, 0)] false [0, 1] ent243 (f_l6Some b (someV b (p + 1) s.length 1).2 s l 2 hb (by omega) (by omega) (by omega)) ⟨.inl ⟨rfl, rfl⟩, .inl ⟨rfl, rfl⟩, .inl ⟨rfl, rfl⟩, trivial⟩ ⟨⟨rfl, rfl⟩, ⟨rfl, rfl⟩, trivial⟩ rfl rfl (fun h => by cases h) rfl (List.all_eq_true.1 rfl) (.inl rfl) rfl rfl) ?_
  refine qqa (j_cut qqz rfl (fun y hy => by obtain ⟨t, _, rfl⟩ := List.mem_map.1 hy; rfl) Bd.none (Bd.some rfl rfl) zau2 zau2) ?_
  refine qqa (qqi qjy rfl rfl) (qjo (qje qq9 rfl rfl (nb rfl) (evo rfl) rfl) ?_)
  refine on (qqe (qjf 2 5 (by decide) ⟨⟨_, _, rfl⟩, ⟨_, _, _, rfl⟩, trivial⟩ rfl rfl rfl rfl ?_))
  try dsimp only [List.set]
  refine qjf 4 5 (by decide) ⟨⟨_, _, rfl⟩, ⟨_, _, _, rfl⟩, trivial⟩ rfl rfl rfl rfl ?_
  try dsimp only [List.set]
  first | (have hq := drawR_1 (n := s.length) (show kdV b p = 1 by assumption); rw [show k = (someV b (p + 1) s.length 1).1.length by omega]) | (have hq := drawR_3 (n := s.length) (show kdV b p = 3 by assumption); rw [show i = (ofV b (someV b (p + 1) s.length 1).2 ([3, 4, 2, 6, 0, 8] : List Int)).toNat by omega]) | have hq := drawR_4 (n := s.length) (show kdV b p = 4 by assumption) | have hq := drawR_0 (n := s.length) (b := b) (p := p) (by assumption) (by assumption) (by assumption)
  refine ar (qqa (qqk (ys := [.p _, .sl _, .sl _, .p _, .sl _]) qzd rfl rfl rfl (nb rfl)) (qjo (qqs qzd rfl rfl rfl rfl rfl rfl) ?_))
  refine on (qqm ?_)
  exact ⟨[.agg [.p _, .sl _, .sl _, .p _, .sl _]], .agg [.p _, .sl _, .sl _, .p _, .sl _], [.box 151 [.sl _, .p _], .row 123 5 _], [], [], ⟨⟨_, _, _, _, rfl, rfl, qzd, rfl⟩, trivial⟩, rfl, rfl, ⟨⟨rfl, rfl⟩, ⟨rfl, rfl⟩, trivial⟩, rfl, rfl, ⟨by rw [hq]; first | rfl | (rw [← List.map_take]; rfl), by rw [hq], rfl⟩⟩
 have h6r := h6
 try simp only [nq, nr, nl, cfV_len, qz1, qz2] at h6
 refine qqj (qqe (qjf 2 5 (by decide) ⟨⟨_, _, rfl⟩, ⟨_, _, _, rfl⟩, trivial⟩ rfl rfl rfl rfl ?_))
 try dsimp only [List.set]
 refine qjf 4 5 (by decide) ⟨⟨_, _, rfl⟩, ⟨_, _, _, rfl⟩, trivial⟩ rfl rfl rfl rfl ?_
 try dsimp only [List.set]
 first | (have hq := drawR_1 (n := s.length) (show kdV b p = 1 by assumption); rw [show k = (someV b (p + 1) s.length 1).1.length by omega]) | (have hq := drawR_3 (n := s.length) (show kdV b p = 3 by assumption); rw [show i = (ofV b (someV b (p + 1) s.length 1).2 ([3, 4, 2, 6, 0, 8] : List Int)).toNat by omega]) | have hq := drawR_4 (n := s.length) (show kdV b p = 4 by assumption) | have hq := drawR_0 (n := s.length) (b := b) (p := p) (by assumption) (by assumption) (by assumption)
 refine ar (qqa (qqk (ys := [.p _, .sl _, .sl _, .p _, .sl _]) qzd rfl rfl rfl (nb rfl)) (qjo (qqs qzd rfl rfl rfl rfl rfl rfl) ?_))
 refine on (qqm ?_)
 exact ⟨[.agg [.p _, .sl _, .sl _, .p _, .sl _]], .agg [.p _, .sl _, .sl _, .p _, .sl _], [.box 151 [.sl _, .p _], .row 123 5 _], [], [], ⟨⟨_, _, _, _, rfl, rfl, qzd, rfl⟩, trivial⟩, rfl, rfl, ⟨⟨rfl, rfl⟩, ⟨rfl, rfl⟩, trivial⟩, rfl, rfl, ⟨by rw [hq]; first | rfl | (rw [← List.map_take]; rfl), by rw [hq], rfl⟩⟩
theorem f_l6Model (b : List Int) (p : Nat) (hb : okB b) (hp : p ≤ 1099511600000) : Fn Tryz.prog 148 [.ptr 0 0 0] [.box 151 [.sl (b.map dU), .p (.int .i64 ((p : Nat) : Int))]] (fun rr ii nn => ∃ x : Md × Nat, (wM x.1 ≤ 2000 ∧ x.1.1.length ≤ 4 ∧ x.1.2.length ≤ 4 ∧ p ≤ x.2 ∧ x.2 ≤ p + 2000) ∧ rr = .agg [.sl (x.1.1.map dI), .sl (x.1.2.map dR)] ∧ ii = [.box 151 [.sl (b.map dU), .p (.int .i64 ((x.2 : Nat) : Int))]] ∧ nn = []) := by
 refine qjm Tryz.func148 rfl (nb rfl) fun w X g => ?_
 show AWp _ _ _ ⟨[(0, .ptr 0 0 0)], [(0, some (0, .box 151 [.sl (b.map dU), .p (.int .i64 ((p : Nat) : Int))]))]⟩
 have hk : (2 : Int) ≤ ofV b (p) ([3, 2, 4, 3] : List Int) ∧ ofV b (p) ([3, 2, 4, 3] : List Int) ≤ 4 := ofV_in (l := [3, 2, 4, 3]) (lo := 2) (hi := 4) (by decide) (by decide)
 refine rs (qq5 (fun ver => qjv elt60 rfl) fun v2x1 => ?_)
 refine on (rs (qqa (qzu (parts := []) str60 elt60 rfl rfl) (qq5 (fun ver => qjv elt60 rfl) fun v3x2 => ?_)))
 refine qjo (qqs qjw rfl rfl rfl rfl rfl rfl) ?_
 refine on (qj2 0 1003 3 1 (by decide) (id := 3) rfl rfl fun v1003x3 => ?_)
 refine qj2 1 1004 123 5 (by decide) (id := 3) rfl rfl fun v1004x4 => ?_
 refine qqe (rs (om rfl (qq5 (fun ver => qqw (parts := [(0, .const (.int .i64 3)), (1, .const (.int .i64 2)), (2, .const (.int .i64 4)), (3, .const (.int .i64 3))]) (es := [[_], [_], [_], [_]]) qqz qz7 rfl rfl (by decide) (by decide) rfl rfl (by simp) rfl) fun v10x5 => ?_)))
 refine qq3 (qqn (v := .p _) (hp1 := [(0, some (0, .box 151 [.sl _, .p _])), (10, some (v10x5, .row 3 1 _))]) [(0, 0), (10, v10x5)] false [0, 10] ent130 (f_num b (p) [3, 2, 4, 3] hb (by omega) (by decide) (by decide)) ⟨.inl ⟨rfl, rfl⟩, .inl ⟨rfl, rfl⟩, trivial⟩ ⟨⟨rfl, rfl⟩, ⟨rfl, rfl⟩, trivial⟩ rfl rfl (fun h => by cases h) rfl (List.all_eq_true.1 rfl) (.inl rfl) rfl rfl) ?_
 refine oa rfl (on (qqf (qqr (ι := List Int × Nat) (fun x => (x.1.length : Int) ≤ (ofV b p ([3, 2, 4, 3] : List Int)) ∧ x.1.all (fun s => decide (0 ≤ s ∧ s ≤ 3)) = true) (fun x r => (4, .p (.int .i64 ((ofV b p ([3, 2, 4, 3] : List Int)) - (x.1.length : Nat)))) :: r) (fun x r => (0, some (0, .box 151 [.sl (b.map dU), .p (.int .i64 ((p + 1 + x.1.length : Nat) : Int))])) :: (3, some (v3x2, .box 60 [.own 1003 x.2, .own 1004 v1004x4])) :: (1003, some (x.2, .row 3 1 ((x.1).map dI))) :: r) (fun x => ((ofV b p ([3, 2, 4, 3] : List Int)) - (x.1.length : Nat)).toNat) (fun _ _ => rfl) (fun _ _ => rfl) ([], v1003x3) (by first | exact ⟨by simp; omega, rfl⟩ | (dsimp only; exact ⟨by simp; omega, rfl⟩)) ⟨⟨rfl, rfl⟩, ⟨qzg (by simp), trivial⟩, ⟨rfl, rfl, rfl, trivial⟩, ⟨rfl, rfl⟩, ⟨rfl, rfl⟩⟩ ?_)))
 rintro ⟨s, v⟩ hs; dsimp only at hs ⊢
 refine qqe (rs (om rfl (qqa (j_gt rfl rfl) (on (ac rfl (fun h1 => ?_) fun h1 => ?_)))))
 ·
  have h1r := h1
  try simp only [nq, nr, nl] at h1
  refine qqj (qqe (qqf ?_))
  have hsz : (0 : Int) ≤ ofV b (p + 1 + s.length) ([2, 1, 3, 2, 0] : List Int) ∧ ofV b (p + 1 + s.length) ([2, 1, 3, 2, 0] : List Int) ≤ 3 := ofV_in (l := [2, 1, 3, 2, 0]) (lo := 0) (hi := 3) (by decide) (by decide)
  refine qjz qzj (by kernel_rfl) (by kernel_rfl) fun vf => ?_
  refine qqq (qqi qjs rfl rfl) (qqq (qqc qq9 rfl rfl rfl) (qqq (qql (evo rfl)) (d_n' (fun ver => qqw (parts := [(0, .const (.int .i64 2)), (1, .const (.int .i64 1)), (2, .const (.int .i64 3)), (3, .const (.int .i64 2)), (4, .const (.int .i64 0))]) (es := [[_], [_], [_], [_], [_]]) qqz qz7 rfl rfl (by decide) (by decide) rfl rfl (by simp) rfl) ?_)))
  refine d_v0' (qqn (v := .p _) (hp1 := [(0, some (0, .box 151 [.sl _, .p _])), (19, some ((vf 19), .row 3 1 _))]) [(0, 0), (19, (vf 19))] false [0, 19] ent130 (f_num b (p + 1 + s.length) [2, 1, 3, 2, 0] hb (by omega) (by decide) (by decide)) ⟨.inl ⟨rfl, rfl⟩, .inl ⟨rfl, rfl⟩, trivial⟩ ⟨⟨rfl, rfl⟩, ⟨rfl, rfl⟩, trivial⟩ rfl rfl (fun h => by cases h) rfl (List.all_eq_true.1 rfl) (.inl rfl) rfl rfl) ?_
  refine d_n' (fun ver => qqw (parts := [(0, .tmp 20)]) (es := [[_]]) qqz qz7 rfl rfl (by decide) (by decide) rfl rfl (by simp) rfl) ?_
  refine d_n' (fun ver => qq6 qqz qz7 rfl rfl rfl rfl rfl rfl (by rw [qq0]; first | omega | (simp only [nr, nl]; omega)) zz) ?_
  refine qqq (qqi qjs rfl rfl) (d_s' (qje qq9 rfl rfl (nb rfl) (evo rfl) rfl) ?_)
  refine qze (by kernel_rfl) (by kernel_rfl) ?_
  refine ar (om rfl (qqa (qzy rfl rfl zz zz) (oa rfl (on ?_))))
  exact ⟨(s ++ [ofV b (p + 1 + s.length) ([2, 1, 3, 2, 0] : List Int)], (vf 1003)), (by first | exact ⟨by first | omega | (simp only [nr, nl]; omega), all_snoc hs.2 (decide_eq_true hsz)⟩ | (dsimp only; exact ⟨by first | omega | (simp only [nr, nl]; omega), all_snoc hs.2 (decide_eq_true hsz)⟩)), ⟨⟨rfl, rfl⟩, ⟨qzg (by simp only [List.length_append, List.length_cons, List.length_nil]; omega), trivial⟩, ⟨boxP (by simp only [List.length_append, List.length_cons, List.length_nil]; omega), rfl, qza (by rw [List.map_append]; rfl), trivial⟩, ⟨rfl, rfl⟩, ⟨rfl, rfl⟩⟩, (by first | exact zz | (dsimp only; exact zz))⟩
 have h1r := h1
 try simp only [nq, nr, nl] at h1
 refine qja (qqe (qqe (qjf 0 3 (by decide) ⟨⟨_, _, rfl⟩, trivial⟩ rfl rfl rfl rfl ?_)))
 try dsimp only [List.set]
 refine ar (oa rfl (on (qqf ?_)))
 refine qqr (ι := List Int × Int) (fun x => 2 ≤ x.1.length ∧ x.1.length ≤ 4 ∧ x.1.all (fun s => decide (0 ≤ s ∧ s ≤ 3)) = true ∧ 0 ≤ x.2) (fun x r => (5, .p (.int .i64 (x.2))) :: r) (fun x r => (3, some (v3x2, .box 60 [.sl (x.1.map dI), .own 1004 v1004x4])) :: r) (fun x => (if x.2 = 0 then x.1.length + 1 else 0)) (fun _ _ => rfl) (fun _ _ => rfl) (s, 0) (by first | exact ⟨by dsimp only; omega, by dsimp only; omega, hs.2, Int.le_refl _⟩ | (dsimp only; exact ⟨by dsimp only; omega, by dsimp only; omega, hs.2, Int.le_refl _⟩)) ⟨⟨rfl, rfl⟩, ⟨rfl, trivial⟩, ⟨rfl, trivial⟩, ⟨rfl, rfl⟩, ⟨rfl, rfl⟩⟩ ?_
 rintro ⟨t, n⟩ ht; dsimp only at ht ⊢
 refine qqe (rs (om rfl (qqa (qz4 rfl rfl) (on (ac rfl (fun h2 => ?_) fun h2 => ?_)))))
 ·
  have h2r := h2
  try simp only [nq, nr, nl] at h2
  refine qqj (qqf (qqe (rs (oa rfl (on (qqf ?_))))))
  refine qqr (ι := Nat) (fun k => k ≤ t.length) (fun k r => (6, .p (.int .i64 ((k : Nat)))) :: (5, .p (.int .i64 (szSum (t.take k)))) :: r) (fun k r => r) (fun k => t.length - k) (fun _ _ => rfl) (fun _ _ => rfl) 0 (Nat.zero_le _) ⟨⟨rfl, rfl⟩, ⟨rfl, qzg (by rw [show n = 0 by assumption]; rfl), trivial⟩, trivial, ⟨rfl, rfl⟩, ⟨rfl, rfl⟩⟩ ?_
  intro k hk2
  refine qqe (rs (om rfl (qqa (qqi qjs rfl rfl) (qqa (qqc qq9 rfl rfl rfl) (qqa (qqg Tryz.underlying23 rfl) (qqa (qzb rfl rfl) (on (ac rfl (fun h3 => ?_) fun h3 => ?_))))))))
  ·
   have h3r := h3
   try simp only [nq, nr, nl] at h3
   refine qqj (qqe (qqf ?_))
   have hsr := szSum_rng (xs := t) (k := k) (by omega) (all_take ht.2.2.1)
   have hsk := all_at (d := default) ht.2.2.1 (show k < t.length by omega)
   rw [decide_eq_true_eq] at hsk
   refine ar (om rfl (qqa (qqi qjs rfl rfl) (qqa (qqc qq9 rfl rfl rfl) (om rfl (qqa (qqy qqz rfl rfl rfl (qqh zz) rfl) (qqa (qqp qq2 rfl (qqh zz) rfl) (qqa (qjh rfl rfl zz zz) (qqa (qjh rfl rfl zz zz) (oa rfl (on (ar (om rfl (qqa (qjh rfl rfl zz zz) ?_)))))))))))))
   refine oa rfl (on ?_)
   exact ⟨k + 1, zz, ⟨⟨rfl, rfl⟩, ⟨rfl, qzg (by rw [szSum_next (by omega)]; omega), trivial⟩, trivial, ⟨rfl, rfl⟩, ⟨rfl, rfl⟩⟩, zz⟩
  have h3r := h3
  try simp only [nq, nr, nl] at h3
  refine qja (qqe ?_)
  obtain rfl : k = t.length := by omega
  rw [List.take_length]
  have hsr := szSum_rng (xs := t) (k := t.length) (Nat.le_refl _) (all_take ht.2.2.1)
  rw [List.take_length] at hsr
  refine ar (om rfl (qqa (j_gt rfl rfl) (on (ac rfl (fun h4 => ?_) fun h4 => ?_))))
  ·
   have h4r := h4
   try simp only [nq, nr, nl] at h4
   refine rs (qqa (qqi qjs rfl rfl) (qqa (qqc qq9 rfl rfl rfl) (qqa (qqi qjs rfl rfl) (qqa (qqc qq9 rfl rfl rfl) (qqa (qqg Tryz.underlying23 rfl) (qqa (qzy rfl rfl zz zz) ?_))))))
   refine qqa (j_cut qqz rfl (fun y hy => by obtain ⟨t, _, rfl⟩ := List.mem_map.1 hy; rfl) Bd.none (Bd.some rfl (show (t.length : Int) - 1 = ((t.length - 1 : Nat) : Int) by omega)) zz zz) ?_
   refine qqa (qqi qjs rfl rfl) (qjo (qje qq9 rfl rfl (nb rfl) (evo rfl) rfl) ?_)
   refine on (ar (oa rfl (on ?_)))
   exact ⟨(t.take (t.length - 1), 0), (by first | exact ⟨by first | omega | (simp only [nr, nl]; omega), by first | omega | (simp only [nr, nl]; omega), all_take ht.2.2.1, Int.le_refl _⟩ | (dsimp only; exact ⟨by first | omega | (simp only [nr, nl]; omega), by first | omega | (simp only [nr, nl]; omega), all_take ht.2.2.1, Int.le_refl _⟩)), ⟨⟨rfl, rfl⟩, ⟨rfl, trivial⟩, ⟨boxS (by rw [List.map_take]; rfl), trivial⟩, ⟨rfl, rfl⟩, ⟨rfl, rfl⟩⟩, (by first | exact (by rw [if_pos rfl, if_pos (by assumption)]; first | omega | (simp only [nr, nl]; omega)) | (dsimp only; exact (by rw [if_pos rfl, if_pos (by assumption)]; first | omega | (simp only [nr, nl]; omega))))⟩
  have h4r := h4
  try simp only [nq, nr, nl] at h4
  refine qqj ?_
  exact ⟨(t, szSum t), (by first | exact ⟨ht.1, ht.2.1, ht.2.2.1, by first | omega | (simp only [nr, nl]; omega)⟩ | (dsimp only; exact ⟨ht.1, ht.2.1, ht.2.2.1, by first | omega | (simp only [nr, nl]; omega)⟩)), ⟨⟨rfl, rfl⟩, ⟨rfl, trivial⟩, ⟨rfl, trivial⟩, ⟨rfl, rfl⟩, ⟨rfl, rfl⟩⟩, (by first | exact (by rw [if_neg (by omega), if_pos (by assumption)]; omega) | (dsimp only; exact (by rw [if_neg (by omega), if_pos (by assumption)]; omega)))⟩
 have h2r := h2
 try simp only [nq, nr, nl] at h2
 refine qja (qqe (qqe ?_))
 have hr : (0 : Int) ≤ ofV b (p + 1 + s.length) ([2, 3, 1, 4, 0] : List Int) ∧ ofV b (p + 1 + s.length) ([2, 3, 1, 4, 0] : List Int) ≤ 4 := ofV_in (l := [2, 3, 1, 4, 0]) (lo := 0) (hi := 4) (by decide) (by decide)
 refine ar (om rfl (qq5 (fun ver => qqw (parts := [(0, .const (.int .i64 2)), (1, .const (.int .i64 3)), (2, .const (.int .i64 1)), (3, .const (.int .i64 4)), (4, .const (.int .i64 0))]) (es := [[_], [_], [_], [_], [_]]) qqz qz7 rfl rfl (by decide) (by decide) rfl rfl (by simp) rfl) fun v52x6 => ?_))
 refine qq3 (qqn (v := .p _) (hp1 := [(0, some (0, .box 151 [.sl _, .p _])), (52, some (v52x6, .row 3 1 _))]) [(0, 0), (52, v52x6)] false [0, 52] ent130 (f_num b (p + 1 + s.length) [2, 3, 1, 4, 0] hb (by omega) (by decide) (by decide)) ⟨.inl ⟨rfl, rfl⟩, .inl ⟨rfl, rfl⟩, trivial⟩ ⟨⟨rfl, rfl⟩, ⟨rfl, rfl⟩, trivial⟩ rfl rfl (fun h => by cases h) rfl (List.all_eq_true.1 rfl) (.inl rfl) rfl rfl) ?_
 refine oa rfl (on (qqf ?_))
 refine qqr (ι := List Rl × Nat × Nat) (fun x => (x.1.length : Int) ≤ (ofV b (p + 1 + s.length) ([2, 3, 1, 4, 0] : List Int)) ∧ wRS x.1 ≤ 201 * x.1.length ∧ p ≤ x.2.1 ∧ x.2.1 ≤ p + 6 + 200 * x.1.length) (fun x r => (7, .p (.int .i64 ((ofV b (p + 1 + s.length) ([2, 3, 1, 4, 0] : List Int)) - (x.1.length : Nat)))) :: r) (fun x r => (0, some (0, .box 151 [.sl (b.map dU), .p (.int .i64 ((x.2.1 : Nat) : Int))])) :: (3, some (v3x2, .box 60 [.sl (t.map dI), .own 1004 x.2.2])) :: (1004, some (x.2.2, .row 123 5 ((x.1).map dR))) :: r) (fun x => ((ofV b (p + 1 + s.length) ([2, 3, 1, 4, 0] : List Int)) - (x.1.length : Nat)).toNat) (fun _ _ => rfl) (fun _ _ => rfl) ([], p + 1 + s.length + 1, v1004x4) (by first | exact ⟨by simp; omega, by simp [wRS, sumW], by dsimp only; omega, by dsimp only; omega⟩ | (dsimp only; exact ⟨by simp; omega, by simp [wRS, sumW], by dsimp only; omega, by dsimp only; omega⟩)) ⟨⟨rfl, rfl⟩, ⟨qzg (by simp), trivial⟩, ⟨rfl, rfl, rfl, trivial⟩, ⟨rfl, rfl⟩, ⟨rfl, rfl⟩⟩ ?_
 rintro ⟨l, q, v⟩ hl; dsimp only at hl ⊢
 refine qqe (rs (om rfl (qqa (j_gt rfl rfl) (on (ac rfl (fun h5 => ?_) fun h5 => ?_)))))
 ·
  have h5r := h5
  try simp only [nq, nr, nl] at h5
  refine qqj (qqe (qqf ?_))
  have hdr := drawR_ok (b := b) (p := q) (n := t.length) (by omega)
  refine qjz qzj (by kernel_rfl) (by kernel_rfl) fun vf => ?_
  refine qqq (qqi qzt rfl rfl) (qqq (qqc leaf58 rfl rfl rfl) (qqq (qql (evo rfl)) (qqq (qqk (ys := [.sl _, .own 1004 v]) qjw rfl rfl rfl (nb rfl)) ?_)))
  refine d_v0' (qqn (v := .agg [.p _, .sl _, .sl _, .p _, .sl _]) (hp1 := [(0, some (0, .box 151 [.sl _, .p _])), (1004, some (v, .row 123 5 _))]) [(0, 0), (1004, v)] false [0, 1004] ent194 (f_l6Draw b q t l hb (by omega) (by omega)) ⟨.inl ⟨rfl, rfl⟩, .inl ⟨rfl, rfl⟩, trivial⟩ ⟨⟨rfl, rfl⟩, ⟨rfl, rfl⟩, trivial⟩ rfl rfl (fun h => by cases h) rfl (List.all_eq_true.1 rfl) (.inl rfl) rfl rfl) ?_
  refine d_n' (fun ver => qqw (parts := [(0, .tmp 62)]) (es := [[_, _, _, _, _]]) slt58 elt123 rfl rfl (by decide) (by decide) rfl rfl (by simp) rfl) ?_
  refine d_n' (fun ver => qq6 slt58 elt123 rfl rfl rfl rfl rfl rfl (by rw [qq0]; first | omega | (simp only [nr, nl]; omega)) zz) ?_
  refine qqq (qqi qzt rfl rfl) (d_s' (qje leaf58 rfl rfl (nb rfl) (evo rfl) rfl) ?_)
  refine qze (by kernel_rfl) (by kernel_rfl) ?_
  refine ar (om rfl (qqa (qzy rfl rfl zz zz) (oa rfl (on ?_))))
  exact ⟨(l ++ [(drawR b q t.length).1], (drawR b q t.length).2, (vf 1004)), (by first | exact ⟨by first | omega | (simp only [nr, nl]; omega), by rw [wRS_snoc]; first | omega | (simp only [nr, nl]; omega), by first | omega | (simp only [nr, nl]; omega), by first | omega | (simp only [nr, nl]; omega)⟩ | (dsimp only; exact ⟨by first | omega | (simp only [nr, nl]; omega), by rw [wRS_snoc]; first | omega | (simp only [nr, nl]; omega), by first | omega | (simp only [nr, nl]; omega), by first | omega | (simp only [nr, nl]; omega)⟩)), ⟨⟨rfl, rfl⟩, ⟨qzg (by simp only [List.length_append, List.length_cons, List.length_nil]; omega), trivial⟩, ⟨rfl, rfl, qza (by rw [List.map_append]; rfl), trivial⟩, ⟨rfl, rfl⟩, ⟨rfl, rfl⟩⟩, (by first | exact zz | (dsimp only; exact zz))⟩
 have h5r := h5
 try simp only [nq, nr, nl] at h5
 refine qja (qqe (qjf 1 3 (by decide) ⟨⟨_, _, rfl⟩, trivial⟩ rfl rfl rfl rfl ?_))
 try dsimp only [List.set]
 refine ar (qqa (qqk (ys := [.sl _, .sl _]) qjw rfl rfl rfl (nb rfl)) (qjo (qqs qjw rfl rfl rfl rfl rfl rfl) ?_))
 refine on (qqm ?_)
 exact ⟨[.agg [.sl _, .sl _]], .agg [.sl _, .sl _], [.box 151 [.sl _, .p _]], [], [], ⟨⟨_, _, _, _, rfl, rfl, qjw, rfl⟩, trivial⟩, rfl, rfl, ⟨⟨rfl, rfl⟩, trivial⟩, rfl, rfl, ⟨((t, l), q), ⟨by unfold wM; dsimp only; omega, by dsimp only; omega, by dsimp only; omega, by dsimp only; omega, by dsimp only; omega⟩, rfl, rfl, rfl⟩⟩
theorem f_l6Copy (m : Md) (hm : wM m ≤ 1048576) : Fn Tryz.prog 193 [.agg [.sl (m.1.map dI), .sl (m.2.map dR)]] [] (fun rr ii nn => rr = .agg [.own 0 0, .own 1 0] ∧ ii = [] ∧ nn = [.row 3 1 ((m.1).map dI), .deep (.mk 123 5 [(1, .mk 3 1 []), (2, .mk 3 1 []), (4, (.mk 23 1 [(0, .mk 3 1 [])]))]) ((m.2).map dR) none]) := by
 refine qjm Tryz.func193 rfl (nb rfl) fun w X g => ?_
 show AWp _ _ _ ⟨[(0, .agg [.sl (m.1.map dI), .sl (m.2.map dR)])], []⟩
 have hw : wM m = m.1.length + wRS m.2 := rfl
 have hw2 : wRS m.2 = m.2.length + sumW wR m.2 := rfl
 refine rs (qq5 (fun ver => qj3 rfl) fun v1x1 => ?_)
 refine qq5 (fun ver => qjv elt60 rfl) fun v2x2 => ?_
 refine on (rs (qq5 (fun ver => j_bs0 qqz qz7 rfl rfl (by decide)) fun v8x3 => ?_))
 refine qqa (qqi qjs rfl rfl) (qqa (qqc qq9 rfl rfl rfl) (qq5 (fun ver => qz8 qqz qz7 rfl rfl rfl rfl (by simp [dI]) lf_ints (by rw [qq0]; first | omega | (simp only [nr, nl]; omega)) zz) fun v8x4 => ?_))
 refine qqa (qzu (parts := [(0, .tmp 11)]) str60 elt60 rfl rfl) (qq5 (fun ver => qjv elt60 rfl) fun v3x5 => ?_)
 refine qjo (qqs qjw rfl rfl rfl rfl rfl rfl) ?_
 refine on (qj2 1 1003 123 5 (by decide) (id := 3) rfl rfl fun v1003x6 => ?_)
 refine a_todeep 1003 0 (.mk 123 5 [(1, (.mk 3 1 [])), (2, (.mk 3 1 [])), (4, (.mk 23 1 [(0, (.mk 3 1 []))]))]) (zs := []) (zs' := []) rfl rfl rfl rfl eat_end rfl ?_
 refine qqe (rs (oa rfl (on (qqf (qqr (ι := Nat × Nat) (fun x => x.1 ≤ m.2.length) (fun x r => (4, .p (.int .i64 ((x.1 : Nat)))) :: r) (fun x r => (3, some (v3x5, .box 60 [.own 8 v8x4, .own 1003 x.2])) :: (1003, some (x.2, .deep (.mk 123 5 [(1, .mk 3 1 []), (2, .mk 3 1 []), (4, (.mk 23 1 [(0, .mk 3 1 [])]))]) ((m.2.take x.1).map dR) none)) :: r) (fun x => m.2.length - x.1) (fun _ _ => rfl) (fun _ _ => rfl) (0, v1003x6) (by first | exact (Nat.zero_le _) | (dsimp only; exact (Nat.zero_le _))) ⟨⟨rfl, rfl⟩, ⟨rfl, trivial⟩, ⟨rfl, rfl, trivial⟩, ⟨rfl, rfl⟩, ⟨rfl, rfl⟩⟩ ?_)))))
 rintro ⟨k, v⟩ hk; dsimp only at hk ⊢
 refine qqe (rs (om rfl (qqa (qqi qzt rfl rfl) (qqa (qqc leaf58 rfl rfl rfl) (qqa (qqg Tryz.underlying58 rfl) (qqa (qzb rfl rfl) (on (ac rfl (fun h1 => ?_) fun h1 => ?_))))))))
 ·
  have h1r := h1
  try simp only [nq, nr, nl] at h1
  refine qqj (qqe (qqf (rs (qqa (qqi qzt rfl rfl) (qqa (qqc leaf58 rfl rfl rfl) (om rfl (qqa (qqy slt58 rfl rfl rfl (qqh zz) rfl) (qqa (qzf (ys := [.p _, .sl _, .sl _, .p _, .sl _]) qzd rfl (qqh zz) rfl (Nat.le_refl _)) (qq5 (fun ver => qjv elt123 rfl) fun v5x7 => ?_)))))))))
  refine qjo (qqs qzd rfl rfl rfl rfl rfl rfl) ?_
  refine on (qqe ?_)
  have hwr := sumW_at (w := wR) (l := m.2) (k := k) (by omega)
  generalize hr : m.2.getD k default = u at hwr ⊢
  have hwd : wR u = u.2.1.length + u.2.2.1.length + (u.2.2.2.2.length + sumW List.length u.2.2.2.2) := rfl
  refine qjz qzj (by kernel_rfl) (by kernel_rfl) fun vf => ?_
  refine qqq (qqi qzc rfl rfl) (qqq (qqc qq2 rfl rfl rfl) (d_n' (fun ver => j_bs0 qqz qz7 rfl rfl (by decide)) ?_))
  refine qqq (qqi qjy rfl rfl) (qqq (qqc qq9 rfl rfl rfl) (d_n1' (fun ver => j_append_slN (by decide) qqz qz7 rfl rfl rfl rfl (by simp [dI]) lf_ints (by rw [qq0]; first | omega | (simp only [nr, nl]; omega)) zz) ?_))
  refine d_n' (fun ver => j_bs0 qqz qz7 rfl rfl (by decide)) ?_
  refine qqq (qqi qzk rfl rfl) (qqq (qqc qq9 rfl rfl rfl) (d_n1' (fun ver => j_append_slN (by decide) qqz qz7 rfl rfl rfl rfl (by simp [dI]) lf_ints (by rw [qq0]; first | omega | (simp only [nr, nl]; omega)) zz) ?_))
  refine qqq (qqi fld123f3 rfl rfl) (qqq (qqc qq2 rfl rfl rfl) (qqq (qzu (parts := [(0, .tmp 26), (1, .tmp 30), (2, .tmp 34), (3, .tmp 36)]) str123 elt123 rfl rfl) (d_n' (fun ver => qjv elt123 rfl) ?_)))
  refine d_s' (qqs qzd rfl rfl rfl rfl rfl rfl) ?_
  refine qze (by kernel_rfl) (by kernel_rfl) ?_
  refine qj2 4 1006 23 1 (by decide) (id := 6) rfl rfl fun v1006x8 => ?_
  refine a_todeep 1006 0 (.mk 23 1 [(0, (.mk 3 1 []))]) (zs := []) (zs' := []) rfl rfl rfl rfl eat_end rfl ?_
  refine qqe (rs (oa rfl (on (qqf (qqr (ι := Nat × Nat) (fun x => x.1 ≤ u.2.2.2.2.length) (fun x r => (7, .p (.int .i64 ((x.1 : Nat)))) :: r) (fun x r => (6, some ((vf 6), .box 123 [.p (.int .i64 u.1), .own 30 (vf 30), .own 34 (vf 34), .p (.int .i64 u.2.2.2.1), .own 1006 x.2])) :: (1006, some (x.2, .deep (.mk 23 1 [(0, .mk 3 1 [])]) ((u.2.2.2.2.take x.1).map dL) none)) :: r) (fun x => u.2.2.2.2.length - x.1) (fun _ _ => rfl) (fun _ _ => rfl) (0, v1006x8) (by first | exact (Nat.zero_le _) | (dsimp only; exact (Nat.zero_le _))) ⟨⟨rfl, rfl⟩, ⟨rfl, trivial⟩, ⟨rfl, rfl, trivial⟩, ⟨rfl, rfl⟩, ⟨rfl, rfl⟩⟩ ?_)))))
  rintro ⟨j, w⟩ hj; dsimp only at hj ⊢
  refine qqe (rs (om rfl (qqa (qqi qj5 rfl rfl) (qqa (qqc qzi rfl rfl rfl) (qqa (qqg Tryz.underlying107 rfl) (qqa (qzb rfl rfl) (on (ac rfl (fun h2 => ?_) fun h2 => ?_))))))))
  ·
   have h2r := h2
   try simp only [nq, nr, nl] at h2
   refine qqj (qqe (qqf ?_))
   have hwx := sumW_at (w := List.length) (l := u.2.2.2.2) (k := j) (by omega)
   refine qjz qzj (by kernel_rfl) (by kernel_rfl) fun vf10 => ?_
   refine qqq (qqi qj5 rfl rfl) (qqq (qqc qzi rfl rfl rfl) (d_n' (fun ver => j_bs0 qqz qz7 rfl rfl (by decide)) ?_))
   refine qqq (qqi qj5 rfl rfl) (qqq (qqc qzi rfl rfl rfl) (qqq (qql (evo rfl)) (qqq (qqy slt107 rfl rfl rfl (qqh zz) rfl) (qqq (qqp qq9 rfl (qqh zz) rfl) (d_n1' (fun ver => j_append_slN (by decide) qqz qz7 rfl rfl rfl rfl (by simp [dI]) lf_ints (by rw [qq0]; first | omega | (simp only [nr, nl]; omega)) zz) ?_)))))
   refine d_n1' (fun ver => qzr (x := .tmp 53) (t := (.mk 23 1 [(0, (.mk 3 1 []))])) slt107 elt23 rfl rfl rfl (by decide) (by decide) rfl rfl rfl (eat_own rfl rfl rfl eat_end) rfl rfl) ?_
   refine d_n1' (fun ver => j_append_deep (by decide) slt107 elt23 rfl rfl rfl rfl rfl rfl rfl rfl (nb rfl) (by rw [qq0]; first | omega | (simp only [nr, nl]; omega)) zz) ?_
   refine qqq (qqi qj5 rfl rfl) (d_s' (qje qzi rfl rfl (nb rfl) (evo rfl) rfl) ?_)
   refine qze (by kernel_rfl) (by kernel_rfl) ?_
   refine ar (om rfl (qqa (qjh rfl rfl zz zz) (oa rfl (on ?_))))
   exact ⟨(j + 1, (vf10 1006)), (by first | exact zz | (dsimp only; exact zz)), ⟨⟨rfl, rfl⟩, ⟨rfl, trivial⟩, ⟨rfl, deepEq (by rw [qjn (d := default) (by omega), List.map_append]; rfl), trivial⟩, ⟨rfl, rfl⟩, ⟨rfl, rfl⟩⟩, (by first | exact zz | (dsimp only; exact zz))⟩
  have h2r := h2
  try simp only [nq, nr, nl] at h2
  refine qja (ar (qqa (qqi qzt rfl rfl) (qqa (qqc leaf58 rfl rfl rfl) (qqa (qqk (ys := [.p _, .own 30 (vf 30), .own 34 (vf 34), .p _, .own 1006 w]) qzd rfl rfl rfl (nb rfl)) (qj9 (fun ver => qzr (x := .tmp 59) (t := (.mk 123 5 [(1, (.mk 3 1 [])), (2, (.mk 3 1 [])), (4, (.mk 23 1 [(0, (.mk 3 1 []))]))])) slt58 elt123 rfl rfl rfl (by decide) (by decide) rfl rfl rfl (eat_leaf rfl rfl rfl (eat_own rfl rfl rfl (eat_own rfl rfl rfl (eat_leaf rfl rfl rfl (eat_own rfl rfl rfl eat_end))))) rfl rfl) fun v60x9 => ?_)))))
  refine qj9 (fun ver => j_append_deep (by decide) slt58 elt123 rfl rfl rfl rfl rfl rfl rfl rfl (nb rfl) (by rw [qq0]; first | omega | (simp only [nr, nl]; omega)) zz) fun v1003x10 => ?_
  refine qqa (qqi qzt rfl rfl) (qjo (qje leaf58 rfl rfl (nb rfl) (evo rfl) rfl) ?_)
  refine on (ar (om rfl (qqa (qjh rfl rfl zz zz) (oa rfl (on ?_)))))
  exact ⟨(k + 1, v1003x10), (by first | exact zz | (dsimp only; exact zz)), ⟨⟨rfl, rfl⟩, ⟨rfl, trivial⟩, ⟨rfl, deepEq (by rw [qjn (d := default) (by omega), List.map_append, hr, show u.2.2.2.2.take j = u.2.2.2.2 from List.take_of_length_le (by omega)]; rfl), trivial⟩, ⟨rfl, rfl⟩, ⟨rfl, rfl⟩⟩, (by first | exact zz | (dsimp only; exact zz))⟩
 have h1r := h1
 try simp only [nq, nr, nl] at h1
 refine qja (rs (qqa (qqk (ys := [.own 8 v8x4, .own 1003 v]) qjw rfl rfl rfl (nb rfl)) (qjo (qqs qjw rfl rfl rfl rfl rfl rfl) ?_)))
 refine on (qqm ?_)
 exact ⟨[.agg [.own 8 v8x4, .own 1003 v]], .agg [.own 0 0, .own 1 0], [], [.row 3 1 _, .deep (.mk 123 5 [(1, (.mk 3 1 [])), (2, (.mk 3 1 [])), (4, (.mk 23 1 [(0, (.mk 3 1 []))]))]) _ none], [(8, v8x4), (1003, v)], ⟨⟨_, _, _, _, rfl, rfl, qjw, rfl⟩, trivial⟩, rfl, rfl, ⟨⟨rfl, rfl⟩, ⟨rfl, rfl⟩, trivial⟩, rfl, rfl, ⟨rfl, rfl, by rw [List.take_of_length_le (by omega)]; rfl⟩⟩
theorem f_l6Mutate (b : List Int) (p : Nat) (m : Md) (hb : okB b) (hp : p ≤ 1099511610000) (hm : wM m ≤ 2000) : Fn Tryz.prog 147 [.ptr 0 0 0, .agg [.sl (m.1.map dI), .sl (m.2.map dR)]] [.box 151 [.sl (b.map dU), .p (.int .i64 ((p : Nat) : Int))]] (fun rr ii nn => ∃ x : Md × Nat, (wM x.1 ≤ 3000 ∧ p ≤ x.2 ∧ x.2 ≤ p + 10 ∧ x.1.2.length ≤ m.2.length) ∧ rr = .agg [.sl (x.1.1.map dI), .sl (x.1.2.map dR)] ∧ ii = [.box 151 [.sl (b.map dU), .p (.int .i64 ((x.2 : Nat) : Int))]] ∧ nn = []) := by
 refine qjm Tryz.func147 rfl (nb rfl) fun w X g => ?_
 show AWp _ _ _ ⟨[(0, .ptr 0 0 0), (1, .agg [.sl (m.1.map dI), .sl (m.2.map dR)])], [(0, some (0, .box 151 [.sl (b.map dU), .p (.int .i64 ((p : Nat) : Int))]))]⟩
 have hw : wM m = m.1.length + wRS m.2 := rfl
 have hw2 : wRS m.2 = m.2.length + sumW wR m.2 := rfl
 refine rs (qq5 (fun ver => qj3 rfl) fun v3x1 => ?_)
 refine qq5 (fun ver => qjv elt60 rfl) fun v4x2 => ?_
 refine on (rs (qqa (qqk (ys := [.sl _, .sl _]) qjw rfl rfl rfl (nb rfl)) (op_call2 (v := fun ver ver2 => .agg [.own 8 ver, .own 100008 ver2]) (hp1 := fun ver ver2 => [(8, some (ver, .row 3 1 _)), (100008, some (ver2, .deep (.mk 123 5 [(1, (.mk 3 1 [])), (2, (.mk 3 1 [])), (4, (.mk 23 1 [(0, (.mk 3 1 []))]))]) _ none))]) [] false ent193 (f_l6Copy m (by omega)) ⟨.inl ⟨rfl, rfl⟩, trivial⟩ trivial rfl rfl rfl rfl (.inl rfl) (fun _ _ => rfl) (fun _ _ => rfl) ?_)))
 rintro  v8x3 v100008x3
 dsimp only [List.cons_append, List.nil_append]
 refine qq5 (fun ver => qjv elt60 rfl) fun v5x4 => ?_
 refine qjo (qqs qjw rfl rfl rfl rfl rfl rfl) ?_
 refine on (rs (qqa (qqi qzt rfl rfl) (qqa (qqc leaf58 rfl rfl rfl) (qqa (j_len_deep_map Tryz.underlying58 rfl rfl) (oa rfl (on (qqe (rs (om rfl ?_)))))))))
 refine qq3 (qqn (v := .p _) (hp1 := [(0, some (0, .box 151 [.sl _, .p _]))]) [(0, 0)] false [0] ent67 (f_pick b (p) 50 hb (by omega)) ⟨.inl ⟨rfl, rfl⟩, .inl ⟨rfl, rfl⟩, trivial⟩ ⟨⟨rfl, rfl⟩, trivial⟩ rfl rfl (fun h => by cases h) rfl (List.all_eq_true.1 rfl) (.inl rfl) rfl rfl) ?_
 refine on (qqf (rs (qqa (qz4 rfl rfl) (oa rfl (on (ac rfl (fun h1 => ?_) fun h1 => ?_))))))
 ·
  have h1r := h1
  try simp only [nq, nr, nl] at h1
  refine rs (qqa (qqi qjs rfl rfl) (qqa (qqc qq9 rfl rfl rfl) (qqa (qq7 Tryz.underlying23 rfl rfl) (qqa (j_gt rfl rfl) (on (ac rfl (fun h2 => ?_) fun h2 => ?_))))))
  ·
   have h2r := h2
   try simp only [nq, nr, nl] at h2
   refine qjz qzj (by kernel_rfl) (by kernel_rfl) fun vf => ?_
   refine qqq (qqi qjs rfl rfl) (qqq (qqc qq9 rfl rfl rfl) (qqq (qql (evo rfl)) (d_n' (fun ver => qqw (parts := [(0, .const (.int .i64 (-1))), (1, .const (.int .i64 4)), (2, .const (.int .i64 3)), (3, .const (.int .i64 9223372036854775807))]) (es := [[_], [_], [_], [_]]) qqz qz7 rfl rfl (by decide) (by decide) rfl rfl (by simp) rfl) ?_)))
   refine d_v0' (qqn (v := .p _) (hp1 := [(0, some (0, .box 151 [.sl _, .p _])), (23, some ((vf 23), .row 3 1 _))]) [(0, 0), (23, (vf 23))] false [0, 23] ent130 (f_num b (p + 1) [-1, 4, 3, 9223372036854775807] hb (by omega) (by decide) (by decide)) ⟨.inl ⟨rfl, rfl⟩, .inl ⟨rfl, rfl⟩, trivial⟩ ⟨⟨rfl, rfl⟩, ⟨rfl, rfl⟩, trivial⟩ rfl rfl (fun h => by cases h) rfl (List.all_eq_true.1 rfl) (.inl rfl) rfl rfl) ?_
   refine qqq (qqo qqz rfl rfl rfl rfl zz) (d_s' (qji qq2 rfl rfl zz (evo rfl) rfl rfl) ?_)
   refine qze (by kernel_rfl) (by kernel_rfl) ?_
   refine qqe (qjf 0 5 (by decide) ⟨⟨_, _, rfl⟩, trivial⟩ rfl rfl rfl rfl ?_)
   try dsimp only [List.set]
   refine qzm 1 5 (by decide) ⟨⟨_, _, rfl⟩, trivial⟩ rfl rfl rfl rfl rfl ?_
   try dsimp only [List.set]
   refine ar (qqa (qqk (ys := [.sl _, .sl _]) qjw rfl rfl rfl (nb rfl)) (qjo (qqs qjw rfl rfl rfl rfl rfl rfl) ?_))
   refine on (qqm ?_)
   exact ⟨[.agg [.sl _, .sl _]], .agg [.sl _, .sl _], [.box 151 [.sl _, .p _]], [], [], ⟨⟨_, _, _, _, rfl, rfl, qjw, rfl⟩, trivial⟩, rfl, rfl, ⟨⟨rfl, rfl⟩, trivial⟩, rfl, rfl, ⟨((m.1.set 0 (ofV b (p + 1) ([-1, 4, 3, 9223372036854775807] : List Int)), m.2), p + 2), ⟨by unfold wM at *; dsimp only; rw [List.length_set]; omega, by dsimp only; omega, by dsimp only; omega, by first | exact Nat.le_refl _ | simp⟩, aggS1 (by rw [List.map_set]; rfl), rfl, rfl⟩⟩
  have h2r := h2
  try simp only [nq, nr, nl] at h2
  refine qqj (qqe (qjf 0 5 (by decide) ⟨⟨_, _, rfl⟩, trivial⟩ rfl rfl rfl rfl ?_))
  try dsimp only [List.set]
  refine qzm 1 5 (by decide) ⟨⟨_, _, rfl⟩, trivial⟩ rfl rfl rfl rfl rfl ?_
  try dsimp only [List.set]
  refine ar (qqa (qqk (ys := [.sl _, .sl _]) qjw rfl rfl rfl (nb rfl)) (qjo (qqs qjw rfl rfl rfl rfl rfl rfl) ?_))
  refine on (qqm ?_)
  exact ⟨[.agg [.sl _, .sl _]], .agg [.sl _, .sl _], [.box 151 [.sl _, .p _]], [], [], ⟨⟨_, _, _, _, rfl, rfl, qjw, rfl⟩, trivial⟩, rfl, rfl, ⟨⟨rfl, rfl⟩, trivial⟩, rfl, rfl, ⟨(m, p + 1), ⟨by dsimp only; omega, by dsimp only; omega, by dsimp only; omega, by first | exact Nat.le_refl _ | simp⟩, rfl, rfl, rfl⟩⟩
 have h1r := h1
 try simp only [nq, nr, nl] at h1
 refine rs (qqa (qz4 rfl rfl) (oa rfl (on (ac rfl (fun h3 => ?_) fun h3 => ?_))))
 ·
  have h3r := h3
  try simp only [nq, nr, nl] at h3
  refine qqf (qqr (ι := List Int × Nat) (fun x => x.1.length ≤ m.1.length + 6) (fun x r => r) (fun x r => (5, some (v5x4, .box 60 [.own 8 x.2, .own 100008 v100008x3])) :: (8, some (x.2, .row 3 1 ((x.1).map dI))) :: r) (fun x => 6 - x.1.length) (fun _ _ => rfl) (fun _ _ => rfl) (m.1, v8x3) (by first | exact (by dsimp only; omega) | (dsimp only; exact (by dsimp only; omega))) ⟨⟨rfl, rfl⟩, trivial, ⟨rfl, rfl, trivial⟩, ⟨rfl, rfl⟩, ⟨rfl, rfl⟩⟩ ?_)
  rintro ⟨s, v⟩ hs; dsimp only at hs ⊢
  refine qqe (rs (qqa (qqi qjs rfl rfl) (qqa (qqc qq9 rfl rfl rfl) (qqa (qq7 Tryz.underlying23 rfl rfl) (qqa (j_le rfl rfl) (on (ac rfl (fun h4 => ?_) fun h4 => ?_)))))))
  ·
   have h4r := h4
   try simp only [nq, nr, nl] at h4
   refine qqj (qqf (ar (qqa (qqi qjs rfl rfl) (qqa (qqc qq9 rfl rfl rfl) (qq5 (fun ver => qqw (parts := [(0, .const (.int .i64 0))]) (es := [[_]]) qqz qz7 rfl rfl (by decide) (by decide) rfl rfl (by simp) rfl) fun v34x5 => ?_)))))
   refine qq5 (fun ver => qq6 qqz qz7 rfl rfl rfl rfl rfl rfl (by rw [qq0]; first | omega | (simp only [nr, nl]; omega)) zz) fun v8x6 => ?_
   refine qqa (qqi qjs rfl rfl) (qjo (qje qq9 rfl rfl (nb rfl) (evo rfl) rfl) ?_)
   refine on ?_
   exact ⟨(s ++ [0], v8x6), (by first | exact zz | (dsimp only; exact zz)), ⟨⟨rfl, rfl⟩, trivial, ⟨rfl, qza (by rw [List.map_append]; rfl), trivial⟩, ⟨rfl, rfl⟩, ⟨rfl, rfl⟩⟩, (by first | exact zz | (dsimp only; exact zz))⟩
  have h4r := h4
  try simp only [nq, nr, nl] at h4
  refine qja (qqe (qjf 0 5 (by decide) ⟨⟨_, _, rfl⟩, trivial⟩ rfl rfl rfl rfl ?_))
  try dsimp only [List.set]
  refine qzm 1 5 (by decide) ⟨⟨_, _, rfl⟩, trivial⟩ rfl rfl rfl rfl rfl ?_
  try dsimp only [List.set]
  refine ar (qqa (qqk (ys := [.sl _, .sl _]) qjw rfl rfl rfl (nb rfl)) (qjo (qqs qjw rfl rfl rfl rfl rfl rfl) ?_))
  refine on (qqm ?_)
  exact ⟨[.agg [.sl _, .sl _]], .agg [.sl _, .sl _], [.box 151 [.sl _, .p _]], [], [], ⟨⟨_, _, _, _, rfl, rfl, qjw, rfl⟩, trivial⟩, rfl, rfl, ⟨⟨rfl, rfl⟩, trivial⟩, rfl, rfl, ⟨((s, m.2), p + 1), ⟨by unfold wM; dsimp only; omega, by dsimp only; omega, by dsimp only; omega, by first | exact Nat.le_refl _ | simp⟩, rfl, rfl, rfl⟩⟩
 have h3r := h3
 try simp only [nq, nr, nl] at h3
 refine rs (qqa (qz4 rfl rfl) (oa rfl (on (ac rfl (fun h5 => ?_) fun h5 => ?_))))
 ·
  have h5r := h5
  try simp only [nq, nr, nl] at h5
  refine rs (om rfl (qqa (j_gt rfl rfl) (on (ac rfl (fun h6 => ?_) fun h6 => ?_))))
  ·
   have h6r := h6
   try simp only [nq, nr, nl] at h6
   refine qjz qzj (by kernel_rfl) (by kernel_rfl) fun vf => ?_
   refine qqq (qqi qzt rfl rfl) (qqq (qqc leaf58 rfl rfl rfl) (qqq (qql (evo rfl)) (d_n' (fun ver => qqw (parts := [(0, .const (.int .i64 0)), (1, .const (.int .i64 5)), (2, .const (.int .i64 1)), (3, .const (.int .i64 2)), (4, .const (.int .i64 3))]) (es := [[_], [_], [_], [_], [_]]) qqz qz7 rfl rfl (by decide) (by decide) rfl rfl (by simp) rfl) ?_)))
   refine d_v0' (qqn (v := .p _) (hp1 := [(0, some (0, .box 151 [.sl _, .p _])), (44, some ((vf 44), .row 3 1 _))]) [(0, 0), (44, (vf 44))] false [0, 44] ent130 (f_num b (p + 1) [0, 5, 1, 2, 3] hb (by omega) (by decide) (by decide)) ⟨.inl ⟨rfl, rfl⟩, .inl ⟨rfl, rfl⟩, trivial⟩ ⟨⟨rfl, rfl⟩, ⟨rfl, rfl⟩, trivial⟩ rfl rfl (fun h => by cases h) rfl (List.all_eq_true.1 rfl) (.inl rfl) rfl rfl) ?_
   refine qqq (j_elem_deepN slt58 rfl rfl rfl rfl rfl zz) (qqq (j_fldpel qzc rfl rfl) (d_s' (j_store_deep qq2 rfl rfl rfl (qqh zz) (nb rfl) (evo rfl) rfl rfl) ?_))
   refine qze (by kernel_rfl) (by kernel_rfl) ?_
   refine qqe (qjf 0 5 (by decide) ⟨⟨_, _, rfl⟩, trivial⟩ rfl rfl rfl rfl ?_)
   try dsimp only [List.set]
   refine qzm 1 5 (by decide) ⟨⟨_, _, rfl⟩, trivial⟩ rfl rfl rfl rfl rfl ?_
   try dsimp only [List.set]
   refine ar (qqa (qqk (ys := [.sl _, .sl _]) qjw rfl rfl rfl (nb rfl)) (qjo (qqs qjw rfl rfl rfl rfl rfl rfl) ?_))
   refine on (qqm ?_)
   exact ⟨[.agg [.sl _, .sl _]], .agg [.sl _, .sl _], [.box 151 [.sl _, .p _]], [], [], ⟨⟨_, _, _, _, rfl, rfl, qjw, rfl⟩, trivial⟩, rfl, rfl, ⟨⟨rfl, rfl⟩, trivial⟩, rfl, rfl, ⟨((m.1, m.2.set 0 ((ofV b (p + 1) ([0, 5, 1, 2, 3] : List Int), (m.2.getD 0 default).2) : Rl)), p + 2), ⟨by have hws := wRS_set (l := m.2) (k := 0) (r := ((ofV b (p + 1) ([0, 5, 1, 2, 3] : List Int), (m.2.getD 0 default).2) : Rl)) (by omega) (rfl); unfold wM at *; dsimp only at hws ⊢; omega, by dsimp only; omega, by dsimp only; omega, by first | exact Nat.le_refl _ | simp⟩, aggS2 (by rw [List.map_set]; rfl), rfl, rfl⟩⟩
  have h6r := h6
  try simp only [nq, nr, nl] at h6
  refine qqj (qqe (qjf 0 5 (by decide) ⟨⟨_, _, rfl⟩, trivial⟩ rfl rfl rfl rfl ?_))
  try dsimp only [List.set]
  refine qzm 1 5 (by decide) ⟨⟨_, _, rfl⟩, trivial⟩ rfl rfl rfl rfl rfl ?_
  try dsimp only [List.set]
  refine ar (qqa (qqk (ys := [.sl _, .sl _]) qjw rfl rfl rfl (nb rfl)) (qjo (qqs qjw rfl rfl rfl rfl rfl rfl) ?_))
  refine on (qqm ?_)
  exact ⟨[.agg [.sl _, .sl _]], .agg [.sl _, .sl _], [.box 151 [.sl _, .p _]], [], [], ⟨⟨_, _, _, _, rfl, rfl, qjw, rfl⟩, trivial⟩, rfl, rfl, ⟨⟨rfl, rfl⟩, trivial⟩, rfl, rfl, ⟨(m, p + 1), ⟨by dsimp only; omega, by dsimp only; omega, by dsimp only; omega, by first | exact Nat.le_refl _ | simp⟩, rfl, rfl, rfl⟩⟩
 have h5r := h5
 try simp only [nq, nr, nl] at h5
 refine rs (qqa (qz4 rfl rfl) (oa rfl (on (ac rfl (fun h7 => ?_) fun h7 => ?_))))
 ·
  have h7r := h7
  try simp only [nq, nr, nl] at h7
  refine rs (om rfl (qqa (j_gt rfl rfl) (om rfl (qqx 52 rfl (fun h8 => ?_) (fun h8 => ?_)))))
  ·
   have h8r := h8
   try simp only [nq, nr, nl] at h8
   refine qqa (qqd rfl rfl h8r (qqi qzt rfl rfl)) (qqa (qqd rfl rfl h8r (qqc leaf58 rfl rfl rfl)) (qqa (qqd rfl rfl h8r (qql (evo rfl))) (qqa (qqd rfl rfl h8r (qzy rfl rfl zz zz)) (qqa (qqd rfl rfl h8r (j_elem_deepN (n := (m.2.length - 1)) slt58 rfl rfl rfl rfl zz zz)) ?_))))
   refine qqa (qqd rfl rfl h8r (j_fldpel qjy rfl rfl)) (qj9 (fun ver => qqd rfl rfl h8r (j_out qq9 (by decide) rfl rfl rfl (qqh zz) rfl rfl)) fun v59x7 => ?_)
   refine qqa (qqd rfl rfl h8r (qq7 Tryz.underlying23 rfl rfl)) (qqa (qqd rfl rfl h8r (j_gt rfl rfl)) (qqa (qqu rfl h8r (evo rfl)) (on (a_back 100008 59 (by decide) rfl rfl rfl rfl (qqh zz) (set_same dR m.2 (m.2.length - 1)) ?_))))
   refine ac rfl (fun h9 => ?_) fun h9 => ?_
   ·
    have h9r := h9
    try simp only [nq, nr, nl] at h9
    refine qjz qzj (by kernel_rfl) (by kernel_rfl) fun vf => ?_
    refine qqq (qqi qzt rfl rfl) (qqq (qqc leaf58 rfl rfl rfl) (qqq (qql (evo rfl)) (qqq (qzy rfl rfl zz zz) (qqq (j_elem_deepN (n := (m.2.length - 1)) slt58 rfl rfl rfl rfl zz zz) (qqq (j_fldpel qjy rfl rfl) (d_n1' (fun ver => j_out qq9 (by decide) rfl rfl rfl (qqh zz) rfl rfl) ?_))))))
    refine qqq (qql (evo rfl)) (d_n' (fun ver => qqw (parts := [(0, .const (.int .i64 (-1))), (1, .const (.int .i64 5)), (2, .const (.int .i64 1)), (3, .const (.int .i64 0))]) (es := [[_], [_], [_], [_]]) qqz qz7 rfl rfl (by decide) (by decide) rfl rfl (by simp) rfl) ?_)
    refine d_v0' (qqn (v := .p _) (hp1 := [(0, some (0, .box 151 [.sl _, .p _])), (71, some ((vf 71), .row 3 1 _))]) [(0, 0), (71, (vf 71))] false [0, 71] ent130 (f_num b (p + 1) [-1, 5, 1, 0] hb (by omega) (by decide) (by decide)) ⟨.inl ⟨rfl, rfl⟩, .inl ⟨rfl, rfl⟩, trivial⟩ ⟨⟨rfl, rfl⟩, ⟨rfl, rfl⟩, trivial⟩ rfl rfl (fun h => by cases h) rfl (List.all_eq_true.1 rfl) (.inl rfl) rfl rfl) ?_
    refine qqq (qqo qqz rfl rfl rfl rfl zz) (d_s' (qji qq2 rfl rfl zz (evo rfl) rfl rfl) ?_)
    refine qze (by kernel_rfl) (by kernel_rfl) ?_
    refine a_back 100008 69 (by decide) rfl rfl rfl rfl (qqh zz) rfl ?_
    refine qqe (qjf 0 5 (by decide) ⟨⟨_, _, rfl⟩, trivial⟩ rfl rfl rfl rfl ?_)
    try dsimp only [List.set]
    refine qzm 1 5 (by decide) ⟨⟨_, _, rfl⟩, trivial⟩ rfl rfl rfl rfl rfl ?_
    try dsimp only [List.set]
    refine ar (qqa (qqk (ys := [.sl _, .sl _]) qjw rfl rfl rfl (nb rfl)) (qjo (qqs qjw rfl rfl rfl rfl rfl rfl) ?_))
    refine on (qqm ?_)
    exact ⟨[.agg [.sl _, .sl _]], .agg [.sl _, .sl _], [.box 151 [.sl _, .p _]], [], [], ⟨⟨_, _, _, _, rfl, rfl, qjw, rfl⟩, trivial⟩, rfl, rfl, ⟨⟨rfl, rfl⟩, trivial⟩, rfl, rfl, ⟨((m.1, m.2.set (m.2.length - 1) (((m.2.getD (m.2.length - 1) default).1, (m.2.getD (m.2.length - 1) default).2.1.set 0 (ofV b (p + 1) ([-1, 5, 1, 0] : List Int)), (m.2.getD (m.2.length - 1) default).2.2) : Rl)), p + 2), ⟨by have hws := wRS_set (l := m.2) (k := m.2.length - 1) (r := (((m.2.getD (m.2.length - 1) default).1, (m.2.getD (m.2.length - 1) default).2.1.set 0 (ofV b (p + 1) ([-1, 5, 1, 0] : List Int)), (m.2.getD (m.2.length - 1) default).2.2) : Rl)) (by omega) (by simp only [wR, List.length_set]); unfold wM at *; dsimp only at hws ⊢; omega, by dsimp only; omega, by dsimp only; omega, by first | exact Nat.le_refl _ | simp⟩, aggS2 (by rw [List.map_set]; congr 1; simp only [dR, List.map_set]; rfl), rfl, rfl⟩⟩
   have h9r := h9
   try simp only [nq, nr, nl] at h9
   refine qqj (qqe (qjf 0 5 (by decide) ⟨⟨_, _, rfl⟩, trivial⟩ rfl rfl rfl rfl ?_))
   try dsimp only [List.set]
   refine qzm 1 5 (by decide) ⟨⟨_, _, rfl⟩, trivial⟩ rfl rfl rfl rfl rfl ?_
   try dsimp only [List.set]
   refine ar (qqa (qqk (ys := [.sl _, .sl _]) qjw rfl rfl rfl (nb rfl)) (qjo (qqs qjw rfl rfl rfl rfl rfl rfl) ?_))
   refine on (qqm ?_)
   exact ⟨[.agg [.sl _, .sl _]], .agg [.sl _, .sl _], [.box 151 [.sl _, .p _]], [], [], ⟨⟨_, _, _, _, rfl, rfl, qjw, rfl⟩, trivial⟩, rfl, rfl, ⟨⟨rfl, rfl⟩, trivial⟩, rfl, rfl, ⟨(m, p + 1), ⟨by dsimp only; omega, by dsimp only; omega, by dsimp only; omega, by first | exact Nat.le_refl _ | simp⟩, rfl, rfl, rfl⟩⟩
  have h8r := h8
  try simp only [nq, nr, nl] at h8
  refine qqa (qqb rfl rfl h8r) (qqa (qqb rfl rfl h8r) (qqa (qqb rfl rfl h8r) (qqa (qqb rfl rfl h8r) (qqa (qqb rfl rfl h8r) (qqa (qqb rfl rfl h8r) (qqa (qqb rfl rfl h8r) (qqa (qqb rfl rfl h8r) (qqa (qqb rfl rfl h8r) (qqa (qqt rfl h8r (evo rfl)) (on (a_ff rfl ?_)))))))))))
  refine qqj (qqe (qjf 0 5 (by decide) ⟨⟨_, _, rfl⟩, trivial⟩ rfl rfl rfl rfl ?_))
  try dsimp only [List.set]
  refine qzm 1 5 (by decide) ⟨⟨_, _, rfl⟩, trivial⟩ rfl rfl rfl rfl rfl ?_
  try dsimp only [List.set]
  refine ar (qqa (qqk (ys := [.sl _, .sl _]) qjw rfl rfl rfl (nb rfl)) (qjo (qqs qjw rfl rfl rfl rfl rfl rfl) ?_))
  refine on (qqm ?_)
  exact ⟨[.agg [.sl _, .sl _]], .agg [.sl _, .sl _], [.box 151 [.sl _, .p _]], [], [], ⟨⟨_, _, _, _, rfl, rfl, qjw, rfl⟩, trivial⟩, rfl, rfl, ⟨⟨rfl, rfl⟩, trivial⟩, rfl, rfl, ⟨(m, p + 1), ⟨by dsimp only; omega, by dsimp only; omega, by dsimp only; omega, by first | exact Nat.le_refl _ | simp⟩, rfl, rfl, rfl⟩⟩
 have h7r := h7
 try simp only [nq, nr, nl] at h7
 refine rs (qqa (qz4 rfl rfl) (oa rfl (on (ac rfl (fun h10 => ?_) fun h10 => ?_))))
 ·
  have h10r := h10
  try simp only [nq, nr, nl] at h10
  refine rs (om rfl (qqa (j_gt rfl rfl) (on (ac rfl (fun h11 => ?_) fun h11 => ?_))))
  ·
   have h11r := h11
   try simp only [nq, nr, nl] at h11
   refine qjz qzj (by kernel_rfl) (by kernel_rfl) fun vf => ?_
   refine qqq (qqi qzt rfl rfl) (qqq (qqc leaf58 rfl rfl rfl) (qqq (qql (evo rfl)) (d_n' (fun ver => qqw (parts := [(0, .const (.int .i64 1001)), (1, .const (.int .i64 (-1001))), (2, .const (.int .i64 1000))]) (es := [[_], [_], [_]]) qqz qz7 rfl rfl (by decide) (by decide) rfl rfl (by simp) rfl) ?_)))
   refine d_v0' (qqn (v := .p _) (hp1 := [(0, some (0, .box 151 [.sl _, .p _])), (81, some ((vf 81), .row 3 1 _))]) [(0, 0), (81, (vf 81))] false [0, 81] ent130 (f_num b (p + 1) [1001, -1001, 1000] hb (by omega) (by decide) (by decide)) ⟨.inl ⟨rfl, rfl⟩, .inl ⟨rfl, rfl⟩, trivial⟩ ⟨⟨rfl, rfl⟩, ⟨rfl, rfl⟩, trivial⟩ rfl rfl (fun h => by cases h) rfl (List.all_eq_true.1 rfl) (.inl rfl) rfl rfl) ?_
   refine qqq (j_elem_deepN slt58 rfl rfl rfl rfl rfl zz) (qqq (j_fldpel fld123f3 rfl rfl) (d_s' (j_store_deep qq2 rfl rfl rfl (qqh zz) (nb rfl) (evo rfl) rfl rfl) ?_))
   refine qze (by kernel_rfl) (by kernel_rfl) ?_
   refine qqe (qjf 0 5 (by decide) ⟨⟨_, _, rfl⟩, trivial⟩ rfl rfl rfl rfl ?_)
   try dsimp only [List.set]
   refine qzm 1 5 (by decide) ⟨⟨_, _, rfl⟩, trivial⟩ rfl rfl rfl rfl rfl ?_
   try dsimp only [List.set]
   refine ar (qqa (qqk (ys := [.sl _, .sl _]) qjw rfl rfl rfl (nb rfl)) (qjo (qqs qjw rfl rfl rfl rfl rfl rfl) ?_))
   refine on (qqm ?_)
   exact ⟨[.agg [.sl _, .sl _]], .agg [.sl _, .sl _], [.box 151 [.sl _, .p _]], [], [], ⟨⟨_, _, _, _, rfl, rfl, qjw, rfl⟩, trivial⟩, rfl, rfl, ⟨⟨rfl, rfl⟩, trivial⟩, rfl, rfl, ⟨((m.1, m.2.set 0 (((m.2.getD 0 default).1, (m.2.getD 0 default).2.1, (m.2.getD 0 default).2.2.1, ofV b (p + 1) ([1001, -1001, 1000] : List Int), (m.2.getD 0 default).2.2.2.2) : Rl)), p + 2), ⟨by have hws := wRS_set (l := m.2) (k := 0) (r := (((m.2.getD 0 default).1, (m.2.getD 0 default).2.1, (m.2.getD 0 default).2.2.1, ofV b (p + 1) ([1001, -1001, 1000] : List Int), (m.2.getD 0 default).2.2.2.2) : Rl)) (by omega) (rfl); unfold wM at *; dsimp only at hws ⊢; omega, by dsimp only; omega, by dsimp only; omega, by first | exact Nat.le_refl _ | simp⟩, aggS2 (by rw [List.map_set]; rfl), rfl, rfl⟩⟩
  have h11r := h11
  try simp only [nq, nr, nl] at h11
  refine qqj (qqe (qjf 0 5 (by decide) ⟨⟨_, _, rfl⟩, trivial⟩ rfl rfl rfl rfl ?_))
  try dsimp only [List.set]
  refine qzm 1 5 (by decide) ⟨⟨_, _, rfl⟩, trivial⟩ rfl rfl rfl rfl rfl ?_
  try dsimp only [List.set]
  refine ar (qqa (qqk (ys := [.sl _, .sl _]) qjw rfl rfl rfl (nb rfl)) (qjo (qqs qjw rfl rfl rfl rfl rfl rfl) ?_))
  refine on (qqm ?_)
  exact ⟨[.agg [.sl _, .sl _]], .agg [.sl _, .sl _], [.box 151 [.sl _, .p _]], [], [], ⟨⟨_, _, _, _, rfl, rfl, qjw, rfl⟩, trivial⟩, rfl, rfl, ⟨⟨rfl, rfl⟩, trivial⟩, rfl, rfl, ⟨(m, p + 1), ⟨by dsimp only; omega, by dsimp only; omega, by dsimp only; omega, by first | exact Nat.le_refl _ | simp⟩, rfl, rfl, rfl⟩⟩
 have h10r := h10
 try simp only [nq, nr, nl] at h10
 refine rs (qqa (qz4 rfl rfl) (oa rfl (on (ac rfl (fun h12 => ?_) fun h12 => ?_))))
 ·
  have h12r := h12
  try simp only [nq, nr, nl] at h12
  refine rs (qqa (qzu (parts := []) str60 elt60 rfl rfl) (qjo (qqs qjw rfl rfl rfl rfl rfl rfl) ?_))
  refine on (qj2 0 1003 3 1 (by decide) (id := 4) rfl rfl fun v1003x8 => ?_)
  refine qj2 1 1004 123 5 (by decide) (id := 4) rfl rfl fun v1004x9 => ?_
  refine qjf 0 4 (by decide) ⟨⟨_, _, rfl⟩, trivial⟩ rfl rfl rfl rfl ?_
  try dsimp only [List.set]
  refine qjf 1 4 (by decide) ⟨⟨_, _, rfl⟩, trivial⟩ rfl rfl rfl rfl ?_
  try dsimp only [List.set]
  refine qqm ?_
  exact ⟨[.agg [.sl _, .sl _]], .agg [.sl _, .sl _], [.box 151 [.sl _, .p _]], [], [], ⟨⟨_, _, _, _, rfl, rfl, qjw, rfl⟩, trivial⟩, rfl, rfl, ⟨⟨rfl, rfl⟩, trivial⟩, rfl, rfl, ⟨(([], []), p + 1), ⟨by simp [wM, wRS, sumW], by dsimp only; omega, by dsimp only; omega, by first | exact Nat.le_refl _ | simp⟩, rfl, rfl, rfl⟩⟩
 have h12r := h12
 try simp only [nq, nr, nl] at h12
 refine qqj (qqe (qjf 0 5 (by decide) ⟨⟨_, _, rfl⟩, trivial⟩ rfl rfl rfl rfl ?_))
 try dsimp only [List.set]
 refine qzm 1 5 (by decide) ⟨⟨_, _, rfl⟩, trivial⟩ rfl rfl rfl rfl rfl ?_
 try dsimp only [List.set]
 refine ar (qqa (qqk (ys := [.sl _, .sl _]) qjw rfl rfl rfl (nb rfl)) (qjo (qqs qjw rfl rfl rfl rfl rfl rfl) ?_))
 refine on (qqm ?_)
 exact ⟨[.agg [.sl _, .sl _]], .agg [.sl _, .sl _], [.box 151 [.sl _, .p _]], [], [], ⟨⟨_, _, _, _, rfl, rfl, qjw, rfl⟩, trivial⟩, rfl, rfl, ⟨⟨rfl, rfl⟩, trivial⟩, rfl, rfl, ⟨(m, p + 1), ⟨by dsimp only; omega, by dsimp only; omega, by dsimp only; omega, by first | exact Nat.le_refl _ | simp⟩, rfl, rfl, rfl⟩⟩
end Go.Ab

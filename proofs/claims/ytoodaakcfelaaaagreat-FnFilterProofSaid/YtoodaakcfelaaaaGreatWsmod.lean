/- Walks. -/
import Derived.Test.YtoodaakcfelaaaaGreatBase
import Derived.Test.YtoodaakcfelaaaaGreatDmod2
import Derived.Test.YtoodaakcfelaaaaGreatWsfun
import Derived.Test.YtoodaakcfelaaaaGreatWscons
import Derived.Test.YtoodaakcfelaaaaGreatSimp
import Derived.Test.YtoodaakcfelaaaaGreatVals
namespace Go.Ab
open Go.Proofs
set_option maxRecDepth 100000
set_option maxHeartbeats 8000000
set_option linter.unusedSimpArgs false
set_option linter.unusedVariables false
theorem f_idx_LI_r (e : Nat) (q1 q4 : Value) (s2 s3 s5 : List (List V)) (F : Nat) (l : List (List Int)) (p : List Int → Bool) (hE : Ent' Tryz.prog F) (hF : ∀ a ∈ l, Fn Tryz.prog F [.sl (a.map dI), .ptr 0 0 0] [.box e [.p q1, .sl s2, .sl s3, .p q4, .sl s5]] (fun r i n => r = .p (.bool (p a)) ∧ i = [.box e [.p q1, .sl s2, .sl s3, .p q4, .sl s5]] ∧ n = [])) : Fn Tryz.prog 245 [.sl (l.map dL), .fn F [.ptr 0 0 0]] [.box e [.p q1, .sl s2, .sl s3, .p q4, .sl s5]] (fun rr ii nn => rr = .p (.int .i64 (idxF p l 0)) ∧ ii = [.box e [.p q1, .sl s2, .sl s3, .p q4, .sl s5]] ∧ nn = []) := by
 refine qjm Tryz.func245 rfl (nb rfl) fun w X g => ?_
 show AWp _ _ _ ⟨[(0, .sl (l.map dL)), (1, .fn F [.ptr 0 0 0])], [(0, some (0, .box e [.p q1, .sl s2, .sl s3, .p q4, .sl s5]))]⟩
 refine qj6 0 rfl fun hlen => ?_
 refine rs (oa rfl (on (qqe (rs (om rfl (qqa (qqg Tryz.underlying107 rfl) (om rfl (on (qqf (qqr (ι := Nat) (fun k => k ≤ l.length ∧ idxF p l 0 = idxF p (l.drop k) (k : Int)) (fun k r => (8, .p (.int .i64 ((k : Nat)))) :: r) (fun k r => (0, some (0, .box e [.p q1, .sl s2, .sl s3, .p q4, .sl s5])) :: r) (fun k => l.length - k) (fun _ _ => rfl) (fun _ _ => rfl) 0 ⟨Nat.zero_le _, rfl⟩ ⟨⟨rfl, rfl⟩, ⟨rfl, trivial⟩, ⟨rfl, trivial⟩, ⟨rfl, rfl⟩, ⟨rfl, rfl⟩⟩ ?_))))))))))
 intro k hpre
 refine rs (qqa (qzb rfl rfl) (on (qqe (ac rfl (fun h1 => ?_) fun h1 => ?_))))
 ·
  have h1r := h1
  try simp only [nq, nr] at h1
  refine qqj (qqe (qqf (rs (om rfl (oa rfl (on (rs (om rfl (om rfl (om rfl (qqa (qqy slt107 rfl rfl rfl (qqh (by omega)) rfl) (qqa (qqp qq9 rfl (qqh (by omega)) rfl) ?_))))))))))))
  refine qq3 (j_callF0 (v := .p _) (hp1 := [(0, some (0, .box e [.p _, .sl _, .sl _, .p _, .sl _]))]) [(0, 0)] false [0] rfl hE (hF (l.getD k default) (qzo (by omega))) ⟨.inl ⟨rfl, rfl⟩, .inl ⟨rfl, rfl⟩, trivial⟩ ⟨⟨rfl, rfl⟩, trivial⟩ rfl rfl (fun h => by cases h) rfl (List.all_eq_true.1 rfl) (.inl rfl) rfl rfl) ?_
  refine on (ac rfl (fun h2 => ?_) fun h2 => ?_)
  ·
   have h2r := h2
   try simp only [nq, nr] at h2
   refine rs (om rfl (oa rfl (on (qqm ?_))))
   exact ⟨[.p _], .p _, [.box e [.p _, .sl _, .sl _, .p _, .sl _]], [], [], ⟨rfl, trivial⟩, rfl, rfl, ⟨⟨rfl, rfl⟩, trivial⟩, rfl, rfl, ⟨qzg (by rw [hpre.2, idxF_hit (d := default) (by omega) (by assumption)]), rfl, rfl⟩⟩
  have h2r := h2
  try simp only [nq, nr] at h2
  refine qqj (ar (qqa (qjh rfl rfl (by omega) (by omega)) (om rfl (on ?_))))
  exact ⟨k + 1, ⟨by omega, by rw [hpre.2, idxF_skip (d := default) (by omega) (by assumption)]⟩, ⟨⟨rfl, rfl⟩, ⟨rfl, trivial⟩, ⟨rfl, trivial⟩, ⟨rfl, rfl⟩, ⟨rfl, rfl⟩⟩, (by omega)⟩
 have h1r := h1
 try simp only [nq, nr] at h1
 refine qja (rs (oa rfl (on (qqm ?_))))
 exact ⟨[.p _], .p _, [.box e [.p _, .sl _, .sl _, .p _, .sl _]], [], [], ⟨rfl, trivial⟩, rfl, rfl, ⟨⟨rfl, rfl⟩, trivial⟩, rfl, rfl, ⟨qzg (by rw [hpre.2, idxF_end (by omega)]), rfl, rfl⟩⟩
theorem f_ctf_LI_r (e : Nat) (q1 q4 : Value) (s2 s3 s5 : List (List V)) (F : Nat) (l : List (List Int)) (p : List Int → Bool) (hE : Ent' Tryz.prog F) (hF : ∀ a ∈ l, Fn Tryz.prog F [.sl (a.map dI), .ptr 0 0 0] [.box e [.p q1, .sl s2, .sl s3, .p q4, .sl s5]] (fun r i n => r = .p (.bool (p a)) ∧ i = [.box e [.p q1, .sl s2, .sl s3, .p q4, .sl s5]] ∧ n = [])) : Fn Tryz.prog 198 [.sl (l.map dL), .fn F [.ptr 0 0 0]] [.box e [.p q1, .sl s2, .sl s3, .p q4, .sl s5]] (fun rr ii nn => rr = .p (.bool (l.any p)) ∧ ii = [.box e [.p q1, .sl s2, .sl s3, .p q4, .sl s5]] ∧ nn = []) := by
 refine qjm Tryz.func198 rfl (nb rfl) fun w X g => ?_
 show AWp _ _ _ ⟨[(0, .sl (l.map dL)), (1, .fn F [.ptr 0 0 0])], [(0, some (0, .box e [.p q1, .sl s2, .sl s3, .p q4, .sl s5]))]⟩
 refine rs (oa rfl (on (rs (om rfl (om rfl ?_)))))
 refine qq3 (qqn (v := .p _) (hp1 := [(0, some (0, .box e [.p _, .sl _, .sl _, .p _, .sl _]))]) [(0, 0)] false [0] ent245 (f_idx_LI_r e q1 q4 s2 s3 s5 F l p hE hF) ⟨.inl ⟨rfl, rfl⟩, .inl ⟨rfl, rfl⟩, trivial⟩ ⟨⟨rfl, rfl⟩, trivial⟩ rfl rfl (fun h => by cases h) rfl (List.all_eq_true.1 rfl) (.inl rfl) rfl rfl) ?_
 refine qqa (j_ge rfl rfl) (oa rfl (on (qqm ?_)))
 exact ⟨[.p _], .p _, [.box e [.p _, .sl _, .sl _, .p _, .sl _]], [], [], ⟨rfl, trivial⟩, rfl, rfl, ⟨⟨rfl, rfl⟩, trivial⟩, rfl, rfl, ⟨qqv (idxF_any (Int.le_refl 0)), rfl, rfl⟩⟩
theorem f_idx_Rule_m (e : Nat) (s1 s2 : List (List V)) (F : Nat) (l : List (Rl)) (p : Rl → Bool) (hE : Ent' Tryz.prog F) (hF : ∀ a ∈ l, Fn Tryz.prog F [.agg [.p (.int .i64 a.1), .sl (a.2.1.map dI), .sl (a.2.2.1.map dI), .p (.int .i64 a.2.2.2.1), .sl (a.2.2.2.2.map dL)], .ptr 0 0 0] [.box e [.sl s1, .sl s2]] (fun r i n => r = .p (.bool (p a)) ∧ i = [.box e [.sl s1, .sl s2]] ∧ n = [])) : Fn Tryz.prog 195 [.sl (l.map dR), .fn F [.ptr 0 0 0]] [.box e [.sl s1, .sl s2]] (fun rr ii nn => rr = .p (.int .i64 (idxF p l 0)) ∧ ii = [.box e [.sl s1, .sl s2]] ∧ nn = []) := by
 refine qjm Tryz.func195 rfl (nb rfl) fun w X g => ?_
 show AWp _ _ _ ⟨[(0, .sl (l.map dR)), (1, .fn F [.ptr 0 0 0])], [(0, some (0, .box e [.sl s1, .sl s2]))]⟩
 refine qj6 0 rfl fun hlen => ?_
 refine rs (oa rfl (on (qqe (rs (om rfl (qqa (qqg Tryz.underlying58 rfl) (om rfl (on (qqf (qqr (ι := Nat) (fun k => k ≤ l.length ∧ idxF p l 0 = idxF p (l.drop k) (k : Int)) (fun k r => (8, .p (.int .i64 ((k : Nat)))) :: r) (fun k r => (0, some (0, .box e [.sl s1, .sl s2])) :: r) (fun k => l.length - k) (fun _ _ => rfl) (fun _ _ => rfl) 0 ⟨Nat.zero_le _, rfl⟩ ⟨⟨rfl, rfl⟩, ⟨rfl, trivial⟩, ⟨rfl, trivial⟩, ⟨rfl, rfl⟩, ⟨rfl, rfl⟩⟩ ?_))))))))))
 intro k hpre
 refine rs (qqa (qzb rfl rfl) (on (qqe (ac rfl (fun h1 => ?_) fun h1 => ?_))))
 ·
  have h1r := h1
  try simp only [nq, nr] at h1
  refine qqj (qqe (qqf (rs (om rfl (oa rfl (on (rs (om rfl (om rfl (om rfl (qqa (qqy slt58 rfl rfl rfl (qqh (by omega)) rfl) (qqa (qzf (ys := [.p _, .sl _, .sl _, .p _, .sl _]) qzd rfl (qqh (by omega)) rfl (Nat.le_refl _)) ?_))))))))))))
  refine qq3 (j_callF0 (v := .p _) (hp1 := [(0, some (0, .box e [.sl _, .sl _]))]) [(0, 0)] false [0] rfl hE (hF (l.getD k default) (qzo (by omega))) ⟨.inl ⟨rfl, rfl⟩, .inl ⟨rfl, rfl⟩, trivial⟩ ⟨⟨rfl, rfl⟩, trivial⟩ rfl rfl (fun h => by cases h) rfl (List.all_eq_true.1 rfl) (.inl rfl) rfl rfl) ?_
  refine on (ac rfl (fun h2 => ?_) fun h2 => ?_)
  ·
   have h2r := h2
   try simp only [nq, nr] at h2
   refine rs (om rfl (oa rfl (on (qqm ?_))))
   exact ⟨[.p _], .p _, [.box e [.sl _, .sl _]], [], [], ⟨rfl, trivial⟩, rfl, rfl, ⟨⟨rfl, rfl⟩, trivial⟩, rfl, rfl, ⟨qzg (by rw [hpre.2, idxF_hit (d := default) (by omega) (by assumption)]), rfl, rfl⟩⟩
  have h2r := h2
  try simp only [nq, nr] at h2
  refine qqj (ar (qqa (qjh rfl rfl (by omega) (by omega)) (om rfl (on ?_))))
  exact ⟨k + 1, ⟨by omega, by rw [hpre.2, idxF_skip (d := default) (by omega) (by assumption)]⟩, ⟨⟨rfl, rfl⟩, ⟨rfl, trivial⟩, ⟨rfl, trivial⟩, ⟨rfl, rfl⟩, ⟨rfl, rfl⟩⟩, (by omega)⟩
 have h1r := h1
 try simp only [nq, nr] at h1
 refine qja (rs (oa rfl (on (qqm ?_))))
 exact ⟨[.p _], .p _, [.box e [.sl _, .sl _]], [], [], ⟨rfl, trivial⟩, rfl, rfl, ⟨⟨rfl, rfl⟩, trivial⟩, rfl, rfl, ⟨qzg (by rw [hpre.2, idxF_end (by omega)]), rfl, rfl⟩⟩
theorem f_ctf_Rule_m (e : Nat) (s1 s2 : List (List V)) (F : Nat) (l : List (Rl)) (p : Rl → Bool) (hE : Ent' Tryz.prog F) (hF : ∀ a ∈ l, Fn Tryz.prog F [.agg [.p (.int .i64 a.1), .sl (a.2.1.map dI), .sl (a.2.2.1.map dI), .p (.int .i64 a.2.2.2.1), .sl (a.2.2.2.2.map dL)], .ptr 0 0 0] [.box e [.sl s1, .sl s2]] (fun r i n => r = .p (.bool (p a)) ∧ i = [.box e [.sl s1, .sl s2]] ∧ n = [])) : Fn Tryz.prog 149 [.sl (l.map dR), .fn F [.ptr 0 0 0]] [.box e [.sl s1, .sl s2]] (fun rr ii nn => rr = .p (.bool (l.any p)) ∧ ii = [.box e [.sl s1, .sl s2]] ∧ nn = []) := by
 refine qjm Tryz.func149 rfl (nb rfl) fun w X g => ?_
 show AWp _ _ _ ⟨[(0, .sl (l.map dR)), (1, .fn F [.ptr 0 0 0])], [(0, some (0, .box e [.sl s1, .sl s2]))]⟩
 refine rs (oa rfl (on (rs (om rfl (om rfl ?_)))))
 refine qq3 (qqn (v := .p _) (hp1 := [(0, some (0, .box e [.sl _, .sl _]))]) [(0, 0)] false [0] ent195 (f_idx_Rule_m e s1 s2 F l p hE hF) ⟨.inl ⟨rfl, rfl⟩, .inl ⟨rfl, rfl⟩, trivial⟩ ⟨⟨rfl, rfl⟩, trivial⟩ rfl rfl (fun h => by cases h) rfl (List.all_eq_true.1 rfl) (.inl rfl) rfl rfl) ?_
 refine qqa (j_ge rfl rfl) (oa rfl (on (qqm ?_)))
 exact ⟨[.p _], .p _, [.box e [.sl _, .sl _]], [], [], ⟨rfl, trivial⟩, rfl, rfl, ⟨⟨rfl, rfl⟩, trivial⟩, rfl, rfl, ⟨qqv (idxF_any (Int.le_refl 0)), rfl, rfl⟩⟩
theorem f_indexInt (l : List Int) (v : Int) : Fn Tryz.prog 166 [.sl (l.map dI), .p (.int .i64 v)] [] (fun rr ii nn => rr = .p (.int .i64 (idxF (fun a => decide (v = a)) l 0)) ∧ ii = [] ∧ nn = []) := by
 refine qjm Tryz.func166 rfl (nb rfl) fun w X g => ?_
 show AWp _ _ _ ⟨[(0, .sl (l.map dI)), (1, .p (.int .i64 v))], []⟩
 refine qj6 0 rfl fun hlen => ?_
 refine rs (oa rfl (on (qqe (rs (om rfl (qqa (qqg Tryz.underlying23 rfl) (om rfl (on (qqf (qqr (ι := Nat) (fun k => k ≤ l.length ∧ idxF (fun a => decide (v = a)) l 0 = idxF (fun a => decide (v = a)) (l.drop k) (k : Int)) (fun k r => (8, .p (.int .i64 ((k : Nat)))) :: r) (fun k r => r) (fun k => l.length - k) (fun _ _ => rfl) (fun _ _ => rfl) 0 ⟨Nat.zero_le _, rfl⟩ ⟨⟨rfl, rfl⟩, ⟨rfl, trivial⟩, trivial, ⟨rfl, rfl⟩, ⟨rfl, rfl⟩⟩ ?_))))))))))
 intro k hpre
 refine rs (qqa (qzb rfl rfl) (on (qqe (ac rfl (fun h1 => ?_) fun h1 => ?_))))
 ·
  have h1r := h1
  try simp only [nq, nr] at h1
  refine qqj (qqe (qqf (rs (om rfl (oa rfl (on (rs (om rfl (om rfl (om rfl (qqa (qqy qqz rfl rfl rfl (qqh (by omega)) rfl) (qqa (qqp qq2 rfl (qqh (by omega)) rfl) (qqa (qz4 rfl rfl) ?_)))))))))))))
  refine on (ac rfl (fun h2 => ?_) fun h2 => ?_)
  ·
   have h2r := h2
   try simp only [nq, nr] at h2
   refine rs (om rfl (oa rfl (on (qqm ?_))))
   exact qq8 rfl ⟨qzg (by rw [hpre.2, idxF_hit (d := default) (by omega) (by first | (rw [decide_eq_true_eq]; assumption) | (simp_all; done))]), rfl, rfl⟩
  have h2r := h2
  try simp only [nq, nr] at h2
  refine qqj (ar (qqa (qjh rfl rfl (by omega) (by omega)) (om rfl (on ?_))))
  exact ⟨k + 1, ⟨by omega, by rw [hpre.2, idxF_skip (d := default) (by omega) (by first | (rw [decide_eq_false_iff_not]; assumption) | (simp_all; done))]⟩, ⟨⟨rfl, rfl⟩, ⟨rfl, trivial⟩, trivial, ⟨rfl, rfl⟩, ⟨rfl, rfl⟩⟩, (by omega)⟩
 have h1r := h1
 try simp only [nq, nr] at h1
 refine qja (rs (oa rfl (on (qqm ?_))))
 exact qq8 rfl ⟨qzg (by rw [hpre.2, idxF_end (by omega)]), rfl, rfl⟩
theorem f_containsInt (l : List Int) (v : Int) : Fn Tryz.prog 107 [.sl (l.map dI), .p (.int .i64 v)] [] (fun rr ii nn => rr = .p (.bool (decide (v ∈ l))) ∧ ii = [] ∧ nn = []) := by
 refine qjm Tryz.func107 rfl (nb rfl) fun w X g => ?_
 show AWp _ _ _ ⟨[(0, .sl (l.map dI)), (1, .p (.int .i64 v))], []⟩
 refine rs (oa rfl (on (rs (om rfl (om rfl ?_)))))
 refine qq3 (qqn (v := .p _) (hp1 := []) [] false [] ent166 (f_indexInt l v) ⟨.inl ⟨rfl, rfl⟩, .inl ⟨rfl, rfl⟩, trivial⟩ trivial rfl rfl (fun h => by cases h) rfl (fun _ h => by cases h) (.inl rfl) rfl rfl) ?_
 refine qqa (j_ge rfl rfl) (oa rfl (on (qqm ?_)))
 exact qq8 rfl ⟨qqv ((idxF_any (Int.le_refl 0)).trans any_mem), rfl, rfl⟩
theorem f_rv1 (n : Int) : Fn Tryz.prog 197 [.p (.int .i64 (n))] [] (fun rr ii nn => rr = .p (.bool (!decide (n ≠ 0 ∧ -9 ≤ n ∧ n ≤ 9))) ∧ ii = [] ∧ nn = []) := by
 refine qjm Tryz.func197 rfl (nb rfl) fun w X g => ?_
 show AWp _ _ _ ⟨[(0, .p (.int .i64 (n)))], []⟩
 refine rs (oa rfl (on (rs (om rfl (qqa (qz4 rfl rfl) (om rfl (qqx 5 rfl (fun h1 => ?_) (fun h1 => ?_))))))))
 ·
  have h1r := h1
  try simp only [nq, nr] at h1
  refine qqa (qqb rfl rfl h1r) (qqa (qqb rfl rfl h1r) (qqa (qqb rfl rfl h1r) (qqa (qqu rfl h1r (evo rfl)) (oa rfl (on (qqm ?_))))))
  exact qq8 rfl ⟨qqv (by first | (rw [decide_eq_false (show ¬ (n ≠ 0 ∧ -9 ≤ n ∧ n ≤ 9) by omega)]; simp_all; done) | (symm; rw [Bool.not_eq_eq_eq_not]; exact decide_eq_decide.2 (by omega)) | (congr 1; exact decide_eq_decide.2 (by omega))), rfl, rfl⟩
 have h1r := h1
 try simp only [nq, nr] at h1
 refine qqa (qqd rfl rfl h1r (qql (evo rfl))) ?_
 refine qq3 (qqd rfl rfl h1r (qqn (v := .p _) (hp1 := []) [] false [] ent113 (qxa _ _ _) ⟨.inl ⟨rfl, rfl⟩, .inl ⟨rfl, rfl⟩, .inl ⟨rfl, rfl⟩, trivial⟩ trivial rfl rfl (fun h => by cases h) rfl (fun _ h => by cases h) (.inl rfl) rfl rfl)) ?_
 refine qqa (qqd rfl rfl h1r (qzw rfl)) (qqa (qqt rfl h1r (evo rfl)) (oa rfl (on (qqm ?_))))
 exact qq8 rfl ⟨qqv (by first | (rw [decide_eq_false (show ¬ (n ≠ 0 ∧ -9 ≤ n ∧ n ≤ 9) by omega)]; simp_all; done) | (symm; rw [Bool.not_eq_eq_eq_not]; exact decide_eq_decide.2 (by omega)) | (congr 1; exact decide_eq_decide.2 (by omega))), rfl, rfl⟩
theorem f_rv21 (n : Int) : Fn Tryz.prog 200 [.p (.int .i64 (n))] [] (fun rr ii nn => rr = .p (.bool (!decide (0 ≤ n ∧ n ≤ 3))) ∧ ii = [] ∧ nn = []) := by
 refine qjm Tryz.func200 rfl (nb rfl) fun w X g => ?_
 show AWp _ _ _ ⟨[(0, .p (.int .i64 (n)))], []⟩
 refine rs (oa rfl (on (rs (om rfl ?_))))
 refine qq3 (qqn (v := .p _) (hp1 := []) [] false [] ent113 (qxa _ _ _) ⟨.inl ⟨rfl, rfl⟩, .inl ⟨rfl, rfl⟩, .inl ⟨rfl, rfl⟩, trivial⟩ trivial rfl rfl (fun h => by cases h) rfl (fun _ h => by cases h) (.inl rfl) rfl rfl) ?_
 refine qqa (qzw rfl) (oa rfl (on (qqm ?_)))
 exact qq8 rfl ⟨rfl, rfl, rfl⟩
theorem f_rv2 (x : List Int) (r : Rl) : Fn Tryz.prog 199 [.sl (x.map dI), .ptr 0 0 0] [.box 123 [.p (.int .i64 r.1), .sl (r.2.1.map dI), .sl (r.2.2.1.map dI), .p (.int .i64 r.2.2.2.1), .sl (r.2.2.2.2.map dL)]] (fun rr ii nn => rr = .p (.bool (!rowOk r x)) ∧ ii = [.box 123 [.p (.int .i64 r.1), .sl (r.2.1.map dI), .sl (r.2.2.1.map dI), .p (.int .i64 r.2.2.2.1), .sl (r.2.2.2.2.map dL)]] ∧ nn = []) := by
 refine qjm Tryz.func199 rfl (nb rfl) fun w X g => ?_
 show AWp _ _ _ ⟨[(0, .sl (x.map dI)), (1, .ptr 0 0 0)], [(0, some (0, .box 123 [.p (.int .i64 r.1), .sl (r.2.1.map dI), .sl (r.2.2.1.map dI), .p (.int .i64 r.2.2.2.1), .sl (r.2.2.2.2.map dL)]))]⟩
 refine rs (oa rfl (on (rs (om rfl (qqa (qqg Tryz.underlying23 rfl) (qqa (qqi qjy rfl rfl) (qqa (qqc qq9 rfl rfl rfl) (qqa (qqg Tryz.underlying23 rfl) (qqa (j_ne rfl rfl) (om rfl (qqx 10 rfl (fun h1 => ?_) (fun h1 => ?_))))))))))))
 ·
  have h1r := h1
  try simp only [nq, nr] at h1
  refine qqa (qqb rfl rfl h1r) (qqa (qqb rfl rfl h1r) (qqa (qqu rfl h1r (evo rfl)) (oa rfl (on (qqm ?_)))))
  exact ⟨[.p _], .p _, [.box 123 [.p _, .sl _, .sl _, .p _, .sl _]], [], [], ⟨rfl, trivial⟩, rfl, rfl, ⟨⟨rfl, rfl⟩, trivial⟩, rfl, rfl, ⟨qqv (by unfold rowOk; first | (rw [decide_eq_false (show ¬ x.length = r.2.1.length by omega)]; rfl) | (rw [decide_eq_true (show x.length = r.2.1.length by omega), Bool.true_and, ← qjq, Bool.not_not])), rfl, rfl⟩⟩
 have h1r := h1
 try simp only [nq, nr] at h1
 refine qqa (qqd rfl rfl h1r (qql (evo rfl))) ?_
 refine qq3 (qqd rfl rfl h1r (qqn (v := .p _) (hp1 := []) [] false [] ent196 (f_ctf_Int_0 200 x (fun a => !decide (0 ≤ a ∧ a ≤ 3)) ent200 (fun a _ => f_rv21 a)) ⟨.inl ⟨rfl, rfl⟩, .inl ⟨rfl, rfl⟩, trivial⟩ trivial rfl rfl (fun h => by cases h) rfl (fun _ h => by cases h) (.inl rfl) rfl rfl)) ?_
 refine qqa (qqt rfl h1r (evo rfl)) (oa rfl (on (qqm ?_)))
 exact ⟨[.p _], .p _, [.box 123 [.p _, .sl _, .sl _, .p _, .sl _]], [], [], ⟨rfl, trivial⟩, rfl, rfl, ⟨⟨rfl, rfl⟩, trivial⟩, rfl, rfl, ⟨qqv (by unfold rowOk; first | (rw [decide_eq_false (show ¬ x.length = r.2.1.length by omega)]; rfl) | (rw [decide_eq_true (show x.length = r.2.1.length by omega), Bool.true_and, ← qjq, Bool.not_not])), rfl, rfl⟩⟩
theorem f_ruleValid (r : Rl) (n : Int) (hn : 0 ≤ n ∧ n ≤ 1000) : Fn Tryz.prog 151 [.agg [.p (.int .i64 r.1), .sl (r.2.1.map dI), .sl (r.2.2.1.map dI), .p (.int .i64 r.2.2.2.1), .sl (r.2.2.2.2.map dL)], .p (.int .i64 (n))] [] (fun rr ii nn => rr = .p (.bool (rOk n r)) ∧ ii = [] ∧ nn = []) := by
 refine qjm Tryz.func151 rfl (nb rfl) fun w X g => ?_
 show AWp _ _ _ ⟨[(0, .agg [.p (.int .i64 r.1), .sl (r.2.1.map dI), .sl (r.2.2.1.map dI), .p (.int .i64 r.2.2.2.1), .sl (r.2.2.2.2.map dL)]), (1, .p (.int .i64 (n)))], []⟩
 refine a_len_rule 0 rfl fun hlv => ?_
 refine rs (qq5 (fun ver => qj3 rfl) fun v2x1 => ?_)
 refine oa rfl (on (qqe (rs (qqa (qqi qjy rfl rfl) (qqa (qqc qq9 rfl rfl rfl) (qqa (qqg Tryz.underlying23 rfl) (om rfl (on (qqf (qqr (ι := Nat) (fun k => k ≤ r.2.1.length ∧ vsN n r.2.1 k = true) (fun k r => (10, .p (.int .i64 ((k : Nat)))) :: r) (fun k r => r) (fun k => r.2.1.length - k) (fun _ _ => rfl) (fun _ _ => rfl) 0 ⟨Nat.zero_le _, rfl⟩ ⟨⟨rfl, rfl⟩, ⟨rfl, trivial⟩, trivial, ⟨rfl, rfl⟩, ⟨rfl, rfl⟩⟩ ?_))))))))))
 intro k hk
 refine rs (qqa (qzb rfl rfl) (on (qqe (ac rfl (fun h1 => ?_) fun h1 => ?_))))
 ·
  have h1r := h1
  try simp only [nq, nr] at h1
  refine qqj (qqe (qqf (rs (om rfl (qqa (qqy qqz rfl rfl rfl (qqh zr) rfl) (qqa (qqp qq2 rfl (qqh zr) rfl) (oa rfl (oa rfl (on (rs (om rfl (om rfl (qqa (qzy rfl rfl zr zr) ?_)))))))))))))
  refine qq3 (qqn (v := .p _) (hp1 := []) [] false [] ent113 (qxa _ _ _) ⟨.inl ⟨rfl, rfl⟩, .inl ⟨rfl, rfl⟩, .inl ⟨rfl, rfl⟩, trivial⟩ trivial rfl rfl (fun h => by cases h) rfl (fun _ h => by cases h) (.inl rfl) rfl rfl) ?_
  refine qqa (qzw rfl) (om rfl (qqx 20 rfl (fun h2 => ?_) (fun h2 => ?_)))
  ·
   have h2r := h2
   try simp only [nq, nr] at h2
   refine qqa (qqb rfl rfl h2r) (qqa (qqb rfl rfl h2r) (qqa (qqb rfl rfl h2r) (qqa (qqb rfl rfl h2r) (qqa (qqb rfl rfl h2r) ?_))))
   try rw [← List.map_take]
   refine qqa (qqb rfl rfl h2r) (qqa (qqu rfl h2r (evo rfl)) (on (a_tt rfl ?_)))
   refine rs (oa rfl (on (qqm ?_)))
   exact qq8 rfl ⟨qqv (by symm; exact rOk_v (vsN_bad (k := k) (by omega) (by first | exact .inl (by omega) | exact .inr (by assumption)))), rfl, rfl⟩
  have h2r := h2
  try simp only [nq, nr] at h2
  refine qqa (qqd rfl rfl h2r (qqi qjy rfl rfl)) (qqa (qqd rfl rfl h2r (qqc qq9 rfl rfl rfl)) (qqa (qqd rfl rfl h2r (qql (evo rfl))) ?_))
  refine qqa (qqd rfl rfl h2r (j_cut qqz rfl (fun y hy => by obtain ⟨t, _, rfl⟩ := List.mem_map.1 hy; rfl) Bd.none (Bd.some rfl rfl) zr zr)) ?_
  refine qqa (qqd rfl rfl h2r (qql (evo rfl))) ?_
  try rw [← List.map_take]
  refine qq3 (qqd rfl rfl h2r (qqn (v := .p _) (hp1 := []) [] false [] ent107 (f_containsInt (r.2.1.take k) (r.2.1.getD k default)) ⟨.inl ⟨rfl, rfl⟩, .inl ⟨rfl, rfl⟩, trivial⟩ trivial rfl rfl (fun h => by cases h) rfl (fun _ h => by cases h) (.inl rfl) rfl rfl)) ?_
  refine qqa (qqt rfl h2r (evo rfl)) (on (ac rfl (fun h3 => ?_) fun h3 => ?_))
  ·
   have h3r := h3
   try simp only [nq, nr] at h3
   refine rs (oa rfl (on (qqm ?_)))
   exact qq8 rfl ⟨qqv (by symm; exact rOk_v (vsN_bad (k := k) (by omega) (by first | exact .inl (by omega) | exact .inr (by assumption)))), rfl, rfl⟩
  have h3r := h3
  try simp only [nq, nr] at h3
  refine qqj (ar (qqa (qjh rfl rfl zr zr) (om rfl (on ?_))))
  exact ⟨k + 1, ⟨by omega, vsN_next hk.2 (by omega) (by assumption)⟩, ⟨⟨rfl, rfl⟩, ⟨rfl, trivial⟩, trivial, ⟨rfl, rfl⟩, ⟨rfl, rfl⟩⟩, zr⟩
 have h1r := h1
 try simp only [nq, nr] at h1
 refine qja (qqe (qqe ?_))
 have hv : vsN n r.2.1 r.2.1.length = true := by rw [show r.2.1.length = k by omega]; exact hk.2
 refine ar (qqa (qqi qjy rfl rfl) (qqa (qqc qq9 rfl rfl rfl) (qqa (qqg Tryz.underlying23 rfl) (qqa (qz4 rfl rfl) (om rfl (qqx 33 rfl (fun h4 => ?_) (fun h4 => ?_)))))))
 ·
  have h4r := h4
  try simp only [nq, nr] at h4
  refine qqa (qqb rfl rfl h4r) (qqa (qqb rfl rfl h4r) (qqa (qqb rfl rfl h4r) (qqa (qqb rfl rfl h4r) (qqa (qjb rfl rfl) (qqa (qjb rfl rfl) (qqa (qjb rfl rfl) (qqa (qjb rfl rfl) (qqa (qjb rfl rfl) (qqa (qjb rfl rfl) (qqa (qjb rfl rfl) (qqa (qjb rfl rfl) (qqa (qjb rfl rfl) (qqa (qqb rfl rfl h4r) ?_)))))))))))))
  refine qqa (qqu rfl h4r (evo rfl)) (om rfl (qqa (qqb rfl rfl rfl) (qqa (qqb rfl rfl rfl) (qqa (qqb rfl rfl rfl) (qqa (qqb rfl rfl rfl) (qqa (qjb rfl rfl) (qqa (qjb rfl rfl) (qqa (qjb rfl rfl) (qqa (qjb rfl rfl) (qqa (qqb rfl rfl rfl) (qqa (qqu rfl rfl (evo rfl)) (on (a_tt rfl ?_)))))))))))))
  refine rs (oa rfl (on (qqm ?_)))
  exact qq8 rfl ⟨qqv (by symm; exact rOk_h (by unfold rHead; omega)), rfl, rfl⟩
 have h4r := h4
 try simp only [nq, nr] at h4
 refine qqa (qqd rfl rfl h4r (qqi qzc rfl rfl)) (qqa (qqd rfl rfl h4r (qqc qq2 rfl rfl rfl)) (qqa (qqd rfl rfl h4r (j_ne rfl rfl)) (qqa (qqd rfl rfl h4r (qql (evo rfl))) (qqx 37 rfl (fun h5 => ?_) (fun h5 => ?_)))))
 ·
  have h5r := h5
  try simp only [nq, nr] at h5
  refine qqa (qqd rfl rfl h5r (qqi qzk rfl rfl)) (qqa (qqd rfl rfl h5r (qqc qq9 rfl rfl rfl)) (qqa (qqd rfl rfl h5r (qqg Tryz.underlying23 rfl)) (qqa (qqd rfl rfl h5r (j_gt rfl rfl)) (qqa (qqd rfl rfl h5r (qql (evo rfl))) (qqx 42 rfl (fun h6 => ?_) (fun h6 => ?_))))))
  ·
   have h6r := h6
   try simp only [nq, nr] at h6
   refine qqa (qqb rfl rfl h6r) (qqa (qqb rfl rfl h6r) (qqa (qqb rfl rfl h6r) (qqa (qqd rfl rfl h5r (qqu rfl h6r (evo rfl))) (qqa (qqd rfl rfl h4r (qqu rfl h5r (evo rfl))) (qqa (qqt rfl h4r (evo rfl)) (om rfl (qqa (qqb rfl rfl rfl) (qqa (qqb rfl rfl rfl) (qqa (qqb rfl rfl rfl) (qqa (qqb rfl rfl rfl) (qqa (qjb rfl rfl) (qqa (qjb rfl rfl) (qqa (qjb rfl rfl) ?_)))))))))))))
   refine qqa (qjb rfl rfl) (qqa (qqb rfl rfl rfl) (qqa (qqu rfl rfl (evo rfl)) (on (a_tt rfl ?_))))
   refine rs (oa rfl (on (qqm ?_)))
   exact qq8 rfl ⟨qqv (by symm; exact rOk_h (by unfold rHead; omega)), rfl, rfl⟩
  have h6r := h6
  try simp only [nq, nr] at h6
  refine qqa (qqd rfl rfl h6r (qqi fld123f3 rfl rfl)) (qqa (qqd rfl rfl h6r (qqc qq2 rfl rfl rfl)) (qqa (qqd rfl rfl h6r (j_ne rfl rfl)) (qqa (qqd rfl rfl h5r (qqt rfl h6r (evo rfl))) (qqa (qqd rfl rfl h4r (qqu rfl h5r (evo rfl))) (qqa (qqt rfl h4r (evo rfl)) (om rfl (qqx 49 rfl (fun h7 => ?_) (fun h7 => ?_))))))))
  ·
   have h7r := h7
   try simp only [nq, nr] at h7
   refine qqa (qqb rfl rfl h7r) (qqa (qqb rfl rfl h7r) (qqa (qqb rfl rfl h7r) (qqa (qqb rfl rfl h7r) (qqa (qjb rfl rfl) (qqa (qjb rfl rfl) (qqa (qjb rfl rfl) (qqa (qjb rfl rfl) (qqa (qqb rfl rfl h7r) (qqa (qqu rfl h7r (evo rfl)) (on (a_tt rfl ?_)))))))))))
   refine rs (oa rfl (on (qqm ?_)))
   exact qq8 rfl ⟨qqv (by symm; exact rOk_h (by unfold rHead; omega)), rfl, rfl⟩
  have h7r := h7
  try simp only [nq, nr] at h7
  refine qqa (qqd rfl rfl h7r (qqi qzc rfl rfl)) (qqa (qqd rfl rfl h7r (qqc qq2 rfl rfl rfl)) (qqa (qqd rfl rfl h7r (j_ne rfl rfl)) (qqa (qqd rfl rfl h7r (qql (evo rfl))) (qqx 53 rfl (fun h8 => ?_) (fun h8 => ?_)))))
  ·
   have h8r := h8
   try simp only [nq, nr] at h8
   refine qqa (qqd rfl rfl h8r (qqi qj5 rfl rfl)) (qqa (qqd rfl rfl h8r (qqc qzi rfl rfl rfl)) (qqa (qqd rfl rfl h8r (qqg Tryz.underlying107 rfl)) (qqa (qqd rfl rfl h8r (j_gt rfl rfl)) (qqa (qqd rfl rfl h7r (qqu rfl h8r (evo rfl))) (qqa (qqt rfl h7r (evo rfl)) (on (ac rfl (fun h9 => ?_) fun h9 => ?_)))))))
   ·
    have h9r := h9
    try simp only [nq, nr] at h9
    refine rs (oa rfl (on (qqm ?_)))
    exact qq8 rfl ⟨qqv (by symm; exact rOk_h (by unfold rHead; omega)), rfl, rfl⟩
   have h9r := h9
   try simp only [nq, nr] at h9
   refine qqj (qqe (qqe ?_))
   have hh : rHead r := by unfold rHead; omega
   refine ar (qqa (qqi qzc rfl rfl) (qqa (qqc qq2 rfl rfl rfl) (on (qqf (rs (qqa (qz4 rfl rfl) (oa rfl (on (ac rfl (fun h10 => ?_) fun h10 => ?_)))))))))
   ·
    have h10r := h10
    try simp only [nq, nr] at h10
    refine rs (qqa (qqi qzk rfl rfl) (qqa (qqc qq9 rfl rfl rfl) (qqa (qqg Tryz.underlying23 rfl) (qqa (qqi qjy rfl rfl) (qqa (qqc qq9 rfl rfl rfl) (qqa (qqg Tryz.underlying23 rfl) (qqa (qz4 rfl rfl) (om rfl (qqx 71 rfl (fun h11 => ?_) (fun h11 => ?_))))))))))
    ·
     have h11r := h11
     try simp only [nq, nr] at h11
     refine qqa (qqd rfl rfl h11r (qqi fld123f3 rfl rfl)) (qqa (qqd rfl rfl h11r (qqc qq2 rfl rfl rfl)) ?_)
     refine qq3 (qqd rfl rfl h11r (qqn (v := .p _) (hp1 := []) [] false [] ent113 (qxa _ _ _) ⟨.inl ⟨rfl, rfl⟩, .inl ⟨rfl, rfl⟩, .inl ⟨rfl, rfl⟩, trivial⟩ trivial rfl rfl (fun h => by cases h) rfl (fun _ h => by cases h) (.inl rfl) rfl rfl)) ?_
     refine qqa (qqu rfl h11r (evo rfl)) (om rfl (qqx 76 rfl (fun h12 => ?_) (fun h12 => ?_)))
     ·
      have h12r := h12
      try simp only [nq, nr] at h12
      refine qqa (qqd rfl rfl h12r (qqi qzk rfl rfl)) (qqa (qqd rfl rfl h12r (qqc qq9 rfl rfl rfl)) ?_)
      refine qq3 (qqd rfl rfl h12r (qqn (v := .p _) (hp1 := []) [] false [] ent196 (f_ctf_Int_0 197 r.2.2.1 (fun a => !decide (a ≠ 0 ∧ -9 ≤ a ∧ a ≤ 9)) ent197 (fun a _ => f_rv1 a)) ⟨.inl ⟨rfl, rfl⟩, .inl ⟨rfl, rfl⟩, trivial⟩ trivial rfl rfl (fun h => by cases h) rfl (fun _ h => by cases h) (.inl rfl) rfl rfl)) ?_
      refine qqa (qqd rfl rfl h12r (qzw rfl)) (qqa (qqu rfl h12r (evo rfl)) (oa rfl (on (qqm ?_))))
      exact qq8 rfl ⟨qqv (by rw [qzq hv hh, rTail_1 (by omega)]; unfold linOk; first | (rw [decide_eq_true (show r.2.2.1.length = r.2.1.length by omega), decide_eq_true (show -1000 ≤ r.2.2.2.1 ∧ r.2.2.2.1 ≤ 1000 by omega), Bool.true_and, Bool.true_and, ← qjq]; done) | (rw [decide_eq_true (show r.2.2.1.length = r.2.1.length by omega), decide_eq_false (show ¬ (-1000 ≤ r.2.2.2.1 ∧ r.2.2.2.1 ≤ 1000) by omega)]; rfl) | (rw [decide_eq_false (show ¬ r.2.2.1.length = r.2.1.length by omega)]; rfl)), rfl, rfl⟩
     have h12r := h12
     try simp only [nq, nr] at h12
     refine qqa (qqb rfl rfl h12r) (qqa (qqb rfl rfl h12r) (qqa (qqb rfl rfl h12r) (qqa (qqb rfl rfl h12r) (qqa (qqt rfl h12r (evo rfl)) (oa rfl (on (qqm ?_)))))))
     exact qq8 rfl ⟨qqv (by rw [qzq hv hh, rTail_1 (by omega)]; unfold linOk; first | (rw [decide_eq_true (show r.2.2.1.length = r.2.1.length by omega), decide_eq_true (show -1000 ≤ r.2.2.2.1 ∧ r.2.2.2.1 ≤ 1000 by omega), Bool.true_and, Bool.true_and, ← qjq]; done) | (rw [decide_eq_true (show r.2.2.1.length = r.2.1.length by omega), decide_eq_false (show ¬ (-1000 ≤ r.2.2.2.1 ∧ r.2.2.2.1 ≤ 1000) by omega)]; rfl) | (rw [decide_eq_false (show ¬ r.2.2.1.length = r.2.1.length by omega)]; rfl)), rfl, rfl⟩
    have h11r := h11
    try simp only [nq, nr] at h11
    refine qqa (qqb rfl rfl h11r) (qqa (qqb rfl rfl h11r) (qqa (qqb rfl rfl h11r) (qqa (qqt rfl h11r (evo rfl)) (om rfl (qqa (qqb rfl rfl rfl) (qqa (qqb rfl rfl rfl) (qqa (qqb rfl rfl rfl) (qqa (qqb rfl rfl rfl) (qqa (qqt rfl rfl (evo rfl)) (oa rfl (on (qqm ?_))))))))))))
    exact qq8 rfl ⟨qqv (by rw [qzq hv hh, rTail_1 (by omega)]; unfold linOk; first | (rw [decide_eq_true (show r.2.2.1.length = r.2.1.length by omega), decide_eq_true (show -1000 ≤ r.2.2.2.1 ∧ r.2.2.2.1 ≤ 1000 by omega), Bool.true_and, Bool.true_and, ← qjq]; done) | (rw [decide_eq_true (show r.2.2.1.length = r.2.1.length by omega), decide_eq_false (show ¬ (-1000 ≤ r.2.2.2.1 ∧ r.2.2.2.1 ≤ 1000) by omega)]; rfl) | (rw [decide_eq_false (show ¬ r.2.2.1.length = r.2.1.length by omega)]; rfl)), rfl, rfl⟩
   have h10r := h10
   try simp only [nq, nr] at h10
   refine rs (qqa (qz4 rfl rfl) (oa rfl (on (ac rfl (fun h13 => ?_) fun h13 => ?_))))
   ·
    have h13r := h13
    try simp only [nq, nr] at h13
    refine rs (qqa (qqi qj5 rfl rfl) (qqa (qqc qzi rfl rfl rfl) (qqa (qqg Tryz.underlying107 rfl) (qqa (j_le rfl rfl) (om rfl (qqx 88 rfl (fun h14 => ?_) (fun h14 => ?_)))))))
    ·
     have h14r := h14
     try simp only [nq, nr] at h14
     refine qqa (qqd rfl rfl h14r (qqi qj5 rfl rfl)) (qqa (qqd rfl rfl h14r (qqc qzi rfl rfl rfl)) (qqa (qqd rfl rfl h14r (j_makeFunc (f := 199) (xs := [.tmp 2]) (caps := [.ptr 2 v2x1 0]) rfl)) ?_))
     refine qq3 (qqd rfl rfl h14r (qqn (v := .p _) (hp1 := [(2, some (v2x1, .box 123 [.p _, .sl _, .sl _, .p _, .sl _]))]) [(2, v2x1)] false [2] ent198 (f_ctf_LI_r 123 (.int .i64 r.1) (.int .i64 r.2.2.2.1) (r.2.1.map dI) (r.2.2.1.map dI) (r.2.2.2.2.map dL) 199 r.2.2.2.2 (fun a => !rowOk r a) ent199 (fun a _ => f_rv2 a r)) ⟨.inl ⟨rfl, rfl⟩, .inl ⟨rfl, rfl⟩, trivial⟩ ⟨⟨rfl, rfl⟩, trivial⟩ rfl rfl (fun h => by cases h) rfl (List.all_eq_true.1 rfl) (.inl rfl) rfl rfl)) ?_
     refine qqa (qqd rfl rfl h14r (qzw rfl)) (qqa (qqu rfl h14r (evo rfl)) (oa rfl (on (qqm ?_))))
     exact qq8 rfl ⟨qqv (by rw [qzq hv hh, rTail_3 (by omega)]; unfold tabOk; first | (rw [decide_eq_true (show r.2.2.2.2.length ≤ 8 by omega), Bool.true_and, ← qjq]; done) | (rw [decide_eq_false (show ¬ r.2.2.2.2.length ≤ 8 by omega)]; rfl)), rfl, rfl⟩
    have h14r := h14
    try simp only [nq, nr] at h14
    refine qqa (qqb rfl rfl h14r) (qqa (qqb rfl rfl h14r) (qqa (qqb rfl rfl h14r) (qqa (qqb rfl rfl h14r) (qqa (qqb rfl rfl h14r) (qqa (qqt rfl h14r (evo rfl)) (oa rfl (on (qqm ?_))))))))
    exact qq8 rfl ⟨qqv (by rw [qzq hv hh, rTail_3 (by omega)]; unfold tabOk; first | (rw [decide_eq_true (show r.2.2.2.2.length ≤ 8 by omega), Bool.true_and, ← qjq]; done) | (rw [decide_eq_false (show ¬ r.2.2.2.2.length ≤ 8 by omega)]; rfl)), rfl, rfl⟩
   have h13r := h13
   try simp only [nq, nr] at h13
   refine rs (qqa (qz4 rfl rfl) (oa rfl (on (ac rfl (fun h15 => ?_) fun h15 => ?_))))
   ·
    have h15r := h15
    try simp only [nq, nr] at h15
    refine rs (qqa (qqi qjy rfl rfl) (qqa (qqc qq9 rfl rfl rfl) (qqa (qqg Tryz.underlying23 rfl) (qqa (qz4 rfl rfl) (oa rfl (on (qqm ?_)))))))
    exact qq8 rfl ⟨qqv (by rw [qzq hv hh, rTail_4 (by omega)]; exact decide_eq_decide.2 (by omega)), rfl, rfl⟩
   have h15r := h15
   try simp only [nq, nr] at h15
   refine qqj (rs (qqa (qqi qzc rfl rfl) (qqa (qqc qq2 rfl rfl rfl) (qqa (qz4 rfl rfl) (oa rfl (on (qqm ?_)))))))
   exact qq8 rfl ⟨qqv (by rw [qzq hv hh, rTail_0 (by omega) (by omega) (by omega)]), rfl, rfl⟩
  have h8r := h8
  try simp only [nq, nr] at h8
  refine qqa (qqb rfl rfl h8r) (qqa (qqb rfl rfl h8r) (qqa (qqb rfl rfl h8r) (qqa (qqb rfl rfl h8r) (qqa (qqd rfl rfl h7r (qqt rfl h8r (evo rfl))) (qqa (qqt rfl h7r (evo rfl)) (on (a_ff rfl ?_)))))))
  refine qqj (qqe (qqe ?_))
  have hh : rHead r := by unfold rHead; omega
  refine ar (qqa (qqi qzc rfl rfl) (qqa (qqc qq2 rfl rfl rfl) (on (qqf (rs (qqa (qz4 rfl rfl) (oa rfl (on (ac rfl (fun h16 => ?_) fun h16 => ?_)))))))))
  ·
   have h16r := h16
   try simp only [nq, nr] at h16
   refine rs (qqa (qqi qzk rfl rfl) (qqa (qqc qq9 rfl rfl rfl) (qqa (qqg Tryz.underlying23 rfl) (qqa (qqi qjy rfl rfl) (qqa (qqc qq9 rfl rfl rfl) (qqa (qqg Tryz.underlying23 rfl) (qqa (qz4 rfl rfl) (om rfl (qqx 71 rfl (fun h17 => ?_) (fun h17 => ?_))))))))))
   ·
    have h17r := h17
    try simp only [nq, nr] at h17
    refine qqa (qqd rfl rfl h17r (qqi fld123f3 rfl rfl)) (qqa (qqd rfl rfl h17r (qqc qq2 rfl rfl rfl)) ?_)
    refine qq3 (qqd rfl rfl h17r (qqn (v := .p _) (hp1 := []) [] false [] ent113 (qxa _ _ _) ⟨.inl ⟨rfl, rfl⟩, .inl ⟨rfl, rfl⟩, .inl ⟨rfl, rfl⟩, trivial⟩ trivial rfl rfl (fun h => by cases h) rfl (fun _ h => by cases h) (.inl rfl) rfl rfl)) ?_
    refine qqa (qqu rfl h17r (evo rfl)) (om rfl (qqx 76 rfl (fun h18 => ?_) (fun h18 => ?_)))
    ·
     have h18r := h18
     try simp only [nq, nr] at h18
     refine qqa (qqd rfl rfl h18r (qqi qzk rfl rfl)) (qqa (qqd rfl rfl h18r (qqc qq9 rfl rfl rfl)) ?_)
     refine qq3 (qqd rfl rfl h18r (qqn (v := .p _) (hp1 := []) [] false [] ent196 (f_ctf_Int_0 197 r.2.2.1 (fun a => !decide (a ≠ 0 ∧ -9 ≤ a ∧ a ≤ 9)) ent197 (fun a _ => f_rv1 a)) ⟨.inl ⟨rfl, rfl⟩, .inl ⟨rfl, rfl⟩, trivial⟩ trivial rfl rfl (fun h => by cases h) rfl (fun _ h => by cases h) (.inl rfl) rfl rfl)) ?_
     refine qqa (qqd rfl rfl h18r (qzw rfl)) (qqa (qqu rfl h18r (evo rfl)) (oa rfl (on (qqm ?_))))
     exact qq8 rfl ⟨qqv (by rw [qzq hv hh, rTail_1 (by omega)]; unfold linOk; first | (rw [decide_eq_true (show r.2.2.1.length = r.2.1.length by omega), decide_eq_true (show -1000 ≤ r.2.2.2.1 ∧ r.2.2.2.1 ≤ 1000 by omega), Bool.true_and, Bool.true_and, ← qjq]; done) | (rw [decide_eq_true (show r.2.2.1.length = r.2.1.length by omega), decide_eq_false (show ¬ (-1000 ≤ r.2.2.2.1 ∧ r.2.2.2.1 ≤ 1000) by omega)]; rfl) | (rw [decide_eq_false (show ¬ r.2.2.1.length = r.2.1.length by omega)]; rfl)), rfl, rfl⟩
    have h18r := h18
    try simp only [nq, nr] at h18
    refine qqa (qqb rfl rfl h18r) (qqa (qqb rfl rfl h18r) (qqa (qqb rfl rfl h18r) (qqa (qqb rfl rfl h18r) (qqa (qqt rfl h18r (evo rfl)) (oa rfl (on (qqm ?_)))))))
    exact qq8 rfl ⟨qqv (by rw [qzq hv hh, rTail_1 (by omega)]; unfold linOk; first | (rw [decide_eq_true (show r.2.2.1.length = r.2.1.length by omega), decide_eq_true (show -1000 ≤ r.2.2.2.1 ∧ r.2.2.2.1 ≤ 1000 by omega), Bool.true_and, Bool.true_and, ← qjq]; done) | (rw [decide_eq_true (show r.2.2.1.length = r.2.1.length by omega), decide_eq_false (show ¬ (-1000 ≤ r.2.2.2.1 ∧ r.2.2.2.1 ≤ 1000) by omega)]; rfl) | (rw [decide_eq_false (show ¬ r.2.2.1.length = r.2.1.length by omega)]; rfl)), rfl, rfl⟩
   have h17r := h17
   try simp only [nq, nr] at h17
   refine qqa (qqb rfl rfl h17r) (qqa (qqb rfl rfl h17r) (qqa (qqb rfl rfl h17r) (qqa (qqt rfl h17r (evo rfl)) (om rfl (qqa (qqb rfl rfl rfl) (qqa (qqb rfl rfl rfl) (qqa (qqb rfl rfl rfl) (qqa (qqb rfl rfl rfl) (qqa (qqt rfl rfl (evo rfl)) (oa rfl (on (qqm ?_))))))))))))
   exact qq8 rfl ⟨qqv (by rw [qzq hv hh, rTail_1 (by omega)]; unfold linOk; first | (rw [decide_eq_true (show r.2.2.1.length = r.2.1.length by omega), decide_eq_true (show -1000 ≤ r.2.2.2.1 ∧ r.2.2.2.1 ≤ 1000 by omega), Bool.true_and, Bool.true_and, ← qjq]; done) | (rw [decide_eq_true (show r.2.2.1.length = r.2.1.length by omega), decide_eq_false (show ¬ (-1000 ≤ r.2.2.2.1 ∧ r.2.2.2.1 ≤ 1000) by omega)]; rfl) | (rw [decide_eq_false (show ¬ r.2.2.1.length = r.2.1.length by omega)]; rfl)), rfl, rfl⟩
  have h16r := h16
  try simp only [nq, nr] at h16
  refine rs (qqa (qz4 rfl rfl) (oa rfl (on (ac rfl (fun h19 => ?_) fun h19 => ?_))))
  ·
   have h19r := h19
   try simp only [nq, nr] at h19
   refine rs (qqa (qqi qj5 rfl rfl) (qqa (qqc qzi rfl rfl rfl) (qqa (qqg Tryz.underlying107 rfl) (qqa (j_le rfl rfl) (om rfl (qqx 88 rfl (fun h20 => ?_) (fun h20 => ?_)))))))
   ·
    have h20r := h20
    try simp only [nq, nr] at h20
    refine qqa (qqd rfl rfl h20r (qqi qj5 rfl rfl)) (qqa (qqd rfl rfl h20r (qqc qzi rfl rfl rfl)) (qqa (qqd rfl rfl h20r (j_makeFunc (f := 199) (xs := [.tmp 2]) (caps := [.ptr 2 v2x1 0]) rfl)) ?_))
    refine qq3 (qqd rfl rfl h20r (qqn (v := .p _) (hp1 := [(2, some (v2x1, .box 123 [.p _, .sl _, .sl _, .p _, .sl _]))]) [(2, v2x1)] false [2] ent198 (f_ctf_LI_r 123 (.int .i64 r.1) (.int .i64 r.2.2.2.1) (r.2.1.map dI) (r.2.2.1.map dI) (r.2.2.2.2.map dL) 199 r.2.2.2.2 (fun a => !rowOk r a) ent199 (fun a _ => f_rv2 a r)) ⟨.inl ⟨rfl, rfl⟩, .inl ⟨rfl, rfl⟩, trivial⟩ ⟨⟨rfl, rfl⟩, trivial⟩ rfl rfl (fun h => by cases h) rfl (List.all_eq_true.1 rfl) (.inl rfl) rfl rfl)) ?_
    refine qqa (qqd rfl rfl h20r (qzw rfl)) (qqa (qqu rfl h20r (evo rfl)) (oa rfl (on (qqm ?_))))
    exact qq8 rfl ⟨qqv (by rw [qzq hv hh, rTail_3 (by omega)]; unfold tabOk; first | (rw [decide_eq_true (show r.2.2.2.2.length ≤ 8 by omega), Bool.true_and, ← qjq]; done) | (rw [decide_eq_false (show ¬ r.2.2.2.2.length ≤ 8 by omega)]; rfl)), rfl, rfl⟩
   have h20r := h20
   try simp only [nq, nr] at h20
   refine qqa (qqb rfl rfl h20r) (qqa (qqb rfl rfl h20r) (qqa (qqb rfl rfl h20r) (qqa (qqb rfl rfl h20r) (qqa (qqb rfl rfl h20r) (qqa (qqt rfl h20r (evo rfl)) (oa rfl (on (qqm ?_))))))))
   exact qq8 rfl ⟨qqv (by rw [qzq hv hh, rTail_3 (by omega)]; unfold tabOk; first | (rw [decide_eq_true (show r.2.2.2.2.length ≤ 8 by omega), Bool.true_and, ← qjq]; done) | (rw [decide_eq_false (show ¬ r.2.2.2.2.length ≤ 8 by omega)]; rfl)), rfl, rfl⟩
  have h19r := h19
  try simp only [nq, nr] at h19
  refine rs (qqa (qz4 rfl rfl) (oa rfl (on (ac rfl (fun h21 => ?_) fun h21 => ?_))))
  ·
   have h21r := h21
   try simp only [nq, nr] at h21
   refine rs (qqa (qqi qjy rfl rfl) (qqa (qqc qq9 rfl rfl rfl) (qqa (qqg Tryz.underlying23 rfl) (qqa (qz4 rfl rfl) (oa rfl (on (qqm ?_)))))))
   exact qq8 rfl ⟨qqv (by rw [qzq hv hh, rTail_4 (by omega)]; exact decide_eq_decide.2 (by omega)), rfl, rfl⟩
  have h21r := h21
  try simp only [nq, nr] at h21
  refine qqj (rs (qqa (qqi qzc rfl rfl) (qqa (qqc qq2 rfl rfl rfl) (qqa (qz4 rfl rfl) (oa rfl (on (qqm ?_)))))))
  exact qq8 rfl ⟨qqv (by rw [qzq hv hh, rTail_0 (by omega) (by omega) (by omega)]), rfl, rfl⟩
 have h5r := h5
 try simp only [nq, nr] at h5
 refine qqa (qqb rfl rfl h5r) (qqa (qqb rfl rfl h5r) (qqa (qqb rfl rfl h5r) (qqa (qqb rfl rfl h5r) (qqa (qqb rfl rfl h5r) (qqa (qjb rfl rfl) (qqa (qjb rfl rfl) (qqa (qjb rfl rfl) (qqa (qqb rfl rfl h5r) (qqa (qqd rfl rfl h4r (qqt rfl h5r (evo rfl))) (qqa (qqt rfl h4r (evo rfl)) (om rfl (qqa (qqd rfl rfl rfl (qqi qzc rfl rfl)) (qqa (qqd rfl rfl rfl (qqc qq2 rfl rfl rfl)) ?_)))))))))))))
 refine qqa (qqd rfl rfl rfl (j_ne rfl rfl)) (qqa (qqd rfl rfl rfl (qql (evo rfl))) (qqx 53 rfl (fun h22 => ?_) (fun h22 => ?_)))
 ·
  have h22r := h22
  try simp only [nq, nr] at h22
  refine qqa (qqd rfl rfl h22r (qqi qj5 rfl rfl)) (qqa (qqd rfl rfl h22r (qqc qzi rfl rfl rfl)) (qqa (qqd rfl rfl h22r (qqg Tryz.underlying107 rfl)) (qqa (qqd rfl rfl h22r (j_gt rfl rfl)) (qqa (qqd rfl rfl rfl (qqu rfl h22r (evo rfl))) (qqa (qqt rfl rfl (evo rfl)) (on (ac rfl (fun h23 => ?_) fun h23 => ?_)))))))
  ·
   have h23r := h23
   try simp only [nq, nr] at h23
   refine rs (oa rfl (on (qqm ?_)))
   exact qq8 rfl ⟨qqv (by symm; exact rOk_h (by unfold rHead; omega)), rfl, rfl⟩
  have h23r := h23
  try simp only [nq, nr] at h23
  refine qqj (qqe (qqe ?_))
  have hh : rHead r := by unfold rHead; omega
  refine ar (qqa (qqi qzc rfl rfl) (qqa (qqc qq2 rfl rfl rfl) (on (qqf (rs (qqa (qz4 rfl rfl) (oa rfl (on (ac rfl (fun h24 => ?_) fun h24 => ?_)))))))))
  ·
   have h24r := h24
   try simp only [nq, nr] at h24
   refine rs (qqa (qqi qzk rfl rfl) (qqa (qqc qq9 rfl rfl rfl) (qqa (qqg Tryz.underlying23 rfl) (qqa (qqi qjy rfl rfl) (qqa (qqc qq9 rfl rfl rfl) (qqa (qqg Tryz.underlying23 rfl) (qqa (qz4 rfl rfl) (om rfl (qqx 71 rfl (fun h25 => ?_) (fun h25 => ?_))))))))))
   ·
    have h25r := h25
    try simp only [nq, nr] at h25
    refine qqa (qqd rfl rfl h25r (qqi fld123f3 rfl rfl)) (qqa (qqd rfl rfl h25r (qqc qq2 rfl rfl rfl)) ?_)
    refine qq3 (qqd rfl rfl h25r (qqn (v := .p _) (hp1 := []) [] false [] ent113 (qxa _ _ _) ⟨.inl ⟨rfl, rfl⟩, .inl ⟨rfl, rfl⟩, .inl ⟨rfl, rfl⟩, trivial⟩ trivial rfl rfl (fun h => by cases h) rfl (fun _ h => by cases h) (.inl rfl) rfl rfl)) ?_
    refine qqa (qqu rfl h25r (evo rfl)) (om rfl (qqx 76 rfl (fun h26 => ?_) (fun h26 => ?_)))
    ·
     have h26r := h26
     try simp only [nq, nr] at h26
     refine qqa (qqd rfl rfl h26r (qqi qzk rfl rfl)) (qqa (qqd rfl rfl h26r (qqc qq9 rfl rfl rfl)) ?_)
     refine qq3 (qqd rfl rfl h26r (qqn (v := .p _) (hp1 := []) [] false [] ent196 (f_ctf_Int_0 197 r.2.2.1 (fun a => !decide (a ≠ 0 ∧ -9 ≤ a ∧ a ≤ 9)) ent197 (fun a _ => f_rv1 a)) ⟨.inl ⟨rfl, rfl⟩, .inl ⟨rfl, rfl⟩, trivial⟩ trivial rfl rfl (fun h => by cases h) rfl (fun _ h => by cases h) (.inl rfl) rfl rfl)) ?_
     refine qqa (qqd rfl rfl h26r (qzw rfl)) (qqa (qqu rfl h26r (evo rfl)) (oa rfl (on (qqm ?_))))
     exact qq8 rfl ⟨qqv (by rw [qzq hv hh, rTail_1 (by omega)]; unfold linOk; first | (rw [decide_eq_true (show r.2.2.1.length = r.2.1.length by omega), decide_eq_true (show -1000 ≤ r.2.2.2.1 ∧ r.2.2.2.1 ≤ 1000 by omega), Bool.true_and, Bool.true_and, ← qjq]; done) | (rw [decide_eq_true (show r.2.2.1.length = r.2.1.length by omega), decide_eq_false (show ¬ (-1000 ≤ r.2.2.2.1 ∧ r.2.2.2.1 ≤ 1000) by omega)]; rfl) | (rw [decide_eq_false (show ¬ r.2.2.1.length = r.2.1.length by omega)]; rfl)), rfl, rfl⟩
    have h26r := h26
    try simp only [nq, nr] at h26
    refine qqa (qqb rfl rfl h26r) (qqa (qqb rfl rfl h26r) (qqa (qqb rfl rfl h26r) (qqa (qqb rfl rfl h26r) (qqa (qqt rfl h26r (evo rfl)) (oa rfl (on (qqm ?_)))))))
    exact qq8 rfl ⟨qqv (by rw [qzq hv hh, rTail_1 (by omega)]; unfold linOk; first | (rw [decide_eq_true (show r.2.2.1.length = r.2.1.length by omega), decide_eq_true (show -1000 ≤ r.2.2.2.1 ∧ r.2.2.2.1 ≤ 1000 by omega), Bool.true_and, Bool.true_and, ← qjq]; done) | (rw [decide_eq_true (show r.2.2.1.length = r.2.1.length by omega), decide_eq_false (show ¬ (-1000 ≤ r.2.2.2.1 ∧ r.2.2.2.1 ≤ 1000) by omega)]; rfl) | (rw [decide_eq_false (show ¬ r.2.2.1.length = r.2.1.length by omega)]; rfl)), rfl, rfl⟩
   have h25r := h25
   try simp only [nq, nr] at h25
   refine qqa (qqb rfl rfl h25r) (qqa (qqb rfl rfl h25r) (qqa (qqb rfl rfl h25r) (qqa (qqt rfl h25r (evo rfl)) (om rfl (qqa (qqb rfl rfl rfl) (qqa (qqb rfl rfl rfl) (qqa (qqb rfl rfl rfl) (qqa (qqb rfl rfl rfl) (qqa (qqt rfl rfl (evo rfl)) (oa rfl (on (qqm ?_))))))))))))
   exact qq8 rfl ⟨qqv (by rw [qzq hv hh, rTail_1 (by omega)]; unfold linOk; first | (rw [decide_eq_true (show r.2.2.1.length = r.2.1.length by omega), decide_eq_true (show -1000 ≤ r.2.2.2.1 ∧ r.2.2.2.1 ≤ 1000 by omega), Bool.true_and, Bool.true_and, ← qjq]; done) | (rw [decide_eq_true (show r.2.2.1.length = r.2.1.length by omega), decide_eq_false (show ¬ (-1000 ≤ r.2.2.2.1 ∧ r.2.2.2.1 ≤ 1000) by omega)]; rfl) | (rw [decide_eq_false (show ¬ r.2.2.1.length = r.2.1.length by omega)]; rfl)), rfl, rfl⟩
  have h24r := h24
  try simp only [nq, nr] at h24
  refine rs (qqa (qz4 rfl rfl) (oa rfl (on (ac rfl (fun h27 => ?_) fun h27 => ?_))))
  ·
   have h27r := h27
   try simp only [nq, nr] at h27
   refine rs (qqa (qqi qj5 rfl rfl) (qqa (qqc qzi rfl rfl rfl) (qqa (qqg Tryz.underlying107 rfl) (qqa (j_le rfl rfl) (om rfl (qqx 88 rfl (fun h28 => ?_) (fun h28 => ?_)))))))
   ·
    have h28r := h28
    try simp only [nq, nr] at h28
    refine qqa (qqd rfl rfl h28r (qqi qj5 rfl rfl)) (qqa (qqd rfl rfl h28r (qqc qzi rfl rfl rfl)) (qqa (qqd rfl rfl h28r (j_makeFunc (f := 199) (xs := [.tmp 2]) (caps := [.ptr 2 v2x1 0]) rfl)) ?_))
    refine qq3 (qqd rfl rfl h28r (qqn (v := .p _) (hp1 := [(2, some (v2x1, .box 123 [.p _, .sl _, .sl _, .p _, .sl _]))]) [(2, v2x1)] false [2] ent198 (f_ctf_LI_r 123 (.int .i64 r.1) (.int .i64 r.2.2.2.1) (r.2.1.map dI) (r.2.2.1.map dI) (r.2.2.2.2.map dL) 199 r.2.2.2.2 (fun a => !rowOk r a) ent199 (fun a _ => f_rv2 a r)) ⟨.inl ⟨rfl, rfl⟩, .inl ⟨rfl, rfl⟩, trivial⟩ ⟨⟨rfl, rfl⟩, trivial⟩ rfl rfl (fun h => by cases h) rfl (List.all_eq_true.1 rfl) (.inl rfl) rfl rfl)) ?_
    refine qqa (qqd rfl rfl h28r (qzw rfl)) (qqa (qqu rfl h28r (evo rfl)) (oa rfl (on (qqm ?_))))
    exact qq8 rfl ⟨qqv (by rw [qzq hv hh, rTail_3 (by omega)]; unfold tabOk; first | (rw [decide_eq_true (show r.2.2.2.2.length ≤ 8 by omega), Bool.true_and, ← qjq]; done) | (rw [decide_eq_false (show ¬ r.2.2.2.2.length ≤ 8 by omega)]; rfl)), rfl, rfl⟩
   have h28r := h28
   try simp only [nq, nr] at h28
   refine qqa (qqb rfl rfl h28r) (qqa (qqb rfl rfl h28r) (qqa (qqb rfl rfl h28r) (qqa (qqb rfl rfl h28r) (qqa (qqb rfl rfl h28r) (qqa (qqt rfl h28r (evo rfl)) (oa rfl (on (qqm ?_))))))))
   exact qq8 rfl ⟨qqv (by rw [qzq hv hh, rTail_3 (by omega)]; unfold tabOk; first | (rw [decide_eq_true (show r.2.2.2.2.length ≤ 8 by omega), Bool.true_and, ← qjq]; done) | (rw [decide_eq_false (show ¬ r.2.2.2.2.length ≤ 8 by omega)]; rfl)), rfl, rfl⟩
  have h27r := h27
  try simp only [nq, nr] at h27
  refine rs (qqa (qz4 rfl rfl) (oa rfl (on (ac rfl (fun h29 => ?_) fun h29 => ?_))))
  ·
   have h29r := h29
   try simp only [nq, nr] at h29
   refine rs (qqa (qqi qjy rfl rfl) (qqa (qqc qq9 rfl rfl rfl) (qqa (qqg Tryz.underlying23 rfl) (qqa (qz4 rfl rfl) (oa rfl (on (qqm ?_)))))))
   exact qq8 rfl ⟨qqv (by rw [qzq hv hh, rTail_4 (by omega)]; exact decide_eq_decide.2 (by omega)), rfl, rfl⟩
  have h29r := h29
  try simp only [nq, nr] at h29
  refine qqj (rs (qqa (qqi qzc rfl rfl) (qqa (qqc qq2 rfl rfl rfl) (qqa (qz4 rfl rfl) (oa rfl (on (qqm ?_)))))))
  exact qq8 rfl ⟨qqv (by rw [qzq hv hh, rTail_0 (by omega) (by omega) (by omega)]), rfl, rfl⟩
 have h22r := h22
 try simp only [nq, nr] at h22
 refine qqa (qqb rfl rfl h22r) (qqa (qqb rfl rfl h22r) (qqa (qqb rfl rfl h22r) (qqa (qqb rfl rfl h22r) (qqa (qqd rfl rfl rfl (qqt rfl h22r (evo rfl))) (qqa (qqt rfl rfl (evo rfl)) (on (a_ff rfl ?_)))))))
 refine qqj (qqe (qqe ?_))
 have hh : rHead r := by unfold rHead; omega
 refine ar (qqa (qqi qzc rfl rfl) (qqa (qqc qq2 rfl rfl rfl) (on (qqf (rs (qqa (qz4 rfl rfl) (oa rfl (on (ac rfl (fun h30 => ?_) fun h30 => ?_)))))))))
 ·
  have h30r := h30
  try simp only [nq, nr] at h30
  refine rs (qqa (qqi qzk rfl rfl) (qqa (qqc qq9 rfl rfl rfl) (qqa (qqg Tryz.underlying23 rfl) (qqa (qqi qjy rfl rfl) (qqa (qqc qq9 rfl rfl rfl) (qqa (qqg Tryz.underlying23 rfl) (qqa (qz4 rfl rfl) (om rfl (qqx 71 rfl (fun h31 => ?_) (fun h31 => ?_))))))))))
  ·
   have h31r := h31
   try simp only [nq, nr] at h31
   refine qqa (qqd rfl rfl h31r (qqi fld123f3 rfl rfl)) (qqa (qqd rfl rfl h31r (qqc qq2 rfl rfl rfl)) ?_)
   refine qq3 (qqd rfl rfl h31r (qqn (v := .p _) (hp1 := []) [] false [] ent113 (qxa _ _ _) ⟨.inl ⟨rfl, rfl⟩, .inl ⟨rfl, rfl⟩, .inl ⟨rfl, rfl⟩, trivial⟩ trivial rfl rfl (fun h => by cases h) rfl (fun _ h => by cases h) (.inl rfl) rfl rfl)) ?_
   refine qqa (qqu rfl h31r (evo rfl)) (om rfl (qqx 76 rfl (fun h32 => ?_) (fun h32 => ?_)))
   ·
    have h32r := h32
    try simp only [nq, nr] at h32
    refine qqa (qqd rfl rfl h32r (qqi qzk rfl rfl)) (qqa (qqd rfl rfl h32r (qqc qq9 rfl rfl rfl)) ?_)
    refine qq3 (qqd rfl rfl h32r (qqn (v := .p _) (hp1 := []) [] false [] ent196 (f_ctf_Int_0 197 r.2.2.1 (fun a => !decide (a ≠ 0 ∧ -9 ≤ a ∧ a ≤ 9)) ent197 (fun a _ => f_rv1 a)) ⟨.inl ⟨rfl, rfl⟩, .inl ⟨rfl, rfl⟩, trivial⟩ trivial rfl rfl (fun h => by cases h) rfl (fun _ h => by cases h) (.inl rfl) rfl rfl)) ?_
    refine qqa (qqd rfl rfl h32r (qzw rfl)) (qqa (qqu rfl h32r (evo rfl)) (oa rfl (on (qqm ?_))))
    exact qq8 rfl ⟨qqv (by rw [qzq hv hh, rTail_1 (by omega)]; unfold linOk; first | (rw [decide_eq_true (show r.2.2.1.length = r.2.1.length by omega), decide_eq_true (show -1000 ≤ r.2.2.2.1 ∧ r.2.2.2.1 ≤ 1000 by omega), Bool.true_and, Bool.true_and, ← qjq]; done) | (rw [decide_eq_true (show r.2.2.1.length = r.2.1.length by omega), decide_eq_false (show ¬ (-1000 ≤ r.2.2.2.1 ∧ r.2.2.2.1 ≤ 1000) by omega)]; rfl) | (rw [decide_eq_false (show ¬ r.2.2.1.length = r.2.1.length by omega)]; rfl)), rfl, rfl⟩
   have h32r := h32
   try simp only [nq, nr] at h32
   refine qqa (qqb rfl rfl h32r) (qqa (qqb rfl rfl h32r) (qqa (qqb rfl rfl h32r) (qqa (qqb rfl rfl h32r) (qqa (qqt rfl h32r (evo rfl)) (oa rfl (on (qqm ?_)))))))
   exact qq8 rfl ⟨qqv (by rw [qzq hv hh, rTail_1 (by omega)]; unfold linOk; first | (rw [decide_eq_true (show r.2.2.1.length = r.2.1.length by omega), decide_eq_true (show -1000 ≤ r.2.2.2.1 ∧ r.2.2.2.1 ≤ 1000 by omega), Bool.true_and, Bool.true_and, ← qjq]; done) | (rw [decide_eq_true (show r.2.2.1.length = r.2.1.length by omega), decide_eq_false (show ¬ (-1000 ≤ r.2.2.2.1 ∧ r.2.2.2.1 ≤ 1000) by omega)]; rfl) | (rw [decide_eq_false (show ¬ r.2.2.1.length = r.2.1.length by omega)]; rfl)), rfl, rfl⟩
  have h31r := h31
  try simp only [nq, nr] at h31
  refine qqa (qqb rfl rfl h31r) (qqa (qqb rfl rfl h31r) (qqa (qqb rfl rfl h31r) (qqa (qqt rfl h31r (evo rfl)) (om rfl (qqa (qqb rfl rfl rfl) (qqa (qqb rfl rfl rfl) (qqa (qqb rfl rfl rfl) (qqa (qqb rfl rfl rfl) (qqa (qqt rfl rfl (evo rfl)) (oa rfl (on (qqm ?_))))))))))))
  exact qq8 rfl ⟨qqv (by rw [qzq hv hh, rTail_1 (by omega)]; unfold linOk; first | (rw [decide_eq_true (show r.2.2.1.length = r.2.1.length by omega), decide_eq_true (show -1000 ≤ r.2.2.2.1 ∧ r.2.2.2.1 ≤ 1000 by omega), Bool.true_and, Bool.true_and, ← qjq]; done) | (rw [decide_eq_true (show r.2.2.1.length = r.2.1.length by omega), decide_eq_false (show ¬ (-1000 ≤ r.2.2.2.1 ∧ r.2.2.2.1 ≤ 1000) by omega)]; rfl) | (rw [decide_eq_false (show ¬ r.2.2.1.length = r.2.1.length by omega)]; rfl)), rfl, rfl⟩
 have h30r := h30
 try simp only [nq, nr] at h30
 refine rs (qqa (qz4 rfl rfl) (oa rfl (on (ac rfl (fun h33 => ?_) fun h33 => ?_))))
 ·
  have h33r := h33
  try simp only [nq, nr] at h33
  refine rs (qqa (qqi qj5 rfl rfl) (qqa (qqc qzi rfl rfl rfl) (qqa (qqg Tryz.underlying107 rfl) (qqa (j_le rfl rfl) (om rfl (qqx 88 rfl (fun h34 => ?_) (fun h34 => ?_)))))))
  ·
   have h34r := h34
   try simp only [nq, nr] at h34
   refine qqa (qqd rfl rfl h34r (qqi qj5 rfl rfl)) (qqa (qqd rfl rfl h34r (qqc qzi rfl rfl rfl)) (qqa (qqd rfl rfl h34r (j_makeFunc (f := 199) (xs := [.tmp 2]) (caps := [.ptr 2 v2x1 0]) rfl)) ?_))
   refine qq3 (qqd rfl rfl h34r (qqn (v := .p _) (hp1 := [(2, some (v2x1, .box 123 [.p _, .sl _, .sl _, .p _, .sl _]))]) [(2, v2x1)] false [2] ent198 (f_ctf_LI_r 123 (.int .i64 r.1) (.int .i64 r.2.2.2.1) (r.2.1.map dI) (r.2.2.1.map dI) (r.2.2.2.2.map dL) 199 r.2.2.2.2 (fun a => !rowOk r a) ent199 (fun a _ => f_rv2 a r)) ⟨.inl ⟨rfl, rfl⟩, .inl ⟨rfl, rfl⟩, trivial⟩ ⟨⟨rfl, rfl⟩, trivial⟩ rfl rfl (fun h => by cases h) rfl (List.all_eq_true.1 rfl) (.inl rfl) rfl rfl)) ?_
   refine qqa (qqd rfl rfl h34r (qzw rfl)) (qqa (qqu rfl h34r (evo rfl)) (oa rfl (on (qqm ?_))))
   exact qq8 rfl ⟨qqv (by rw [qzq hv hh, rTail_3 (by omega)]; unfold tabOk; first | (rw [decide_eq_true (show r.2.2.2.2.length ≤ 8 by omega), Bool.true_and, ← qjq]; done) | (rw [decide_eq_false (show ¬ r.2.2.2.2.length ≤ 8 by omega)]; rfl)), rfl, rfl⟩
  have h34r := h34
  try simp only [nq, nr] at h34
  refine qqa (qqb rfl rfl h34r) (qqa (qqb rfl rfl h34r) (qqa (qqb rfl rfl h34r) (qqa (qqb rfl rfl h34r) (qqa (qqb rfl rfl h34r) (qqa (qqt rfl h34r (evo rfl)) (oa rfl (on (qqm ?_))))))))
  exact qq8 rfl ⟨qqv (by rw [qzq hv hh, rTail_3 (by omega)]; unfold tabOk; first | (rw [decide_eq_true (show r.2.2.2.2.length ≤ 8 by omega), Bool.true_and, ← qjq]; done) | (rw [decide_eq_false (show ¬ r.2.2.2.2.length ≤ 8 by omega)]; rfl)), rfl, rfl⟩
 have h33r := h33
 try simp only [nq, nr] at h33
 refine rs (qqa (qz4 rfl rfl) (oa rfl (on (ac rfl (fun h35 => ?_) fun h35 => ?_))))
 ·
  have h35r := h35
  try simp only [nq, nr] at h35
  refine rs (qqa (qqi qjy rfl rfl) (qqa (qqc qq9 rfl rfl rfl) (qqa (qqg Tryz.underlying23 rfl) (qqa (qz4 rfl rfl) (oa rfl (on (qqm ?_)))))))
  exact qq8 rfl ⟨qqv (by rw [qzq hv hh, rTail_4 (by omega)]; exact decide_eq_decide.2 (by omega)), rfl, rfl⟩
 have h35r := h35
 try simp only [nq, nr] at h35
 refine qqj (rs (qqa (qqi qzc rfl rfl) (qqa (qqc qq2 rfl rfl rfl) (qqa (qz4 rfl rfl) (oa rfl (on (qqm ?_)))))))
 exact qq8 rfl ⟨qqv (by rw [qzq hv hh, rTail_0 (by omega) (by omega) (by omega)]), rfl, rfl⟩
theorem f_mv1 (r : Rl) (m : Md) (hm : m.1.length ≤ 1000) : Fn Tryz.prog 150 [.agg [.p (.int .i64 r.1), .sl (r.2.1.map dI), .sl (r.2.2.1.map dI), .p (.int .i64 r.2.2.2.1), .sl (r.2.2.2.2.map dL)], .ptr 0 0 0] [.box 60 [.sl (m.1.map dI), .sl (m.2.map dR)]] (fun rr ii nn => rr = .p (.bool (!rOk m.1.length r)) ∧ ii = [.box 60 [.sl (m.1.map dI), .sl (m.2.map dR)]] ∧ nn = []) := by
 refine qjm Tryz.func150 rfl (nb rfl) fun w X g => ?_
 show AWp _ _ _ ⟨[(0, .agg [.p (.int .i64 r.1), .sl (r.2.1.map dI), .sl (r.2.2.1.map dI), .p (.int .i64 r.2.2.2.1), .sl (r.2.2.2.2.map dL)]), (1, .ptr 0 0 0)], [(0, some (0, .box 60 [.sl (m.1.map dI), .sl (m.2.map dR)]))]⟩
 refine rs (qq5 (fun ver => qj3 rfl) fun v2x1 => ?_)
 refine oa rfl (on (rs (qqa (qqk (ys := [.p _, .sl _, .sl _, .p _, .sl _]) qzd rfl rfl rfl (nb rfl)) (qqa (qqi qjs rfl rfl) (qqa (qqc qq9 rfl rfl rfl) (qqa (qqg Tryz.underlying23 rfl) ?_))))))
 refine qq3 (qqn (v := .p _) (hp1 := []) [] false [] ent151 (f_ruleValid r m.1.length (by omega)) ⟨.inl ⟨rfl, rfl⟩, .inl ⟨rfl, rfl⟩, trivial⟩ trivial rfl rfl (fun h => by cases h) rfl (fun _ h => by cases h) (.inl rfl) rfl rfl) ?_
 refine qqa (qzw rfl) (oa rfl (on (qqm ?_)))
 exact ⟨[.p _], .p _, [.box 60 [.sl _, .sl _]], [], [], ⟨rfl, trivial⟩, rfl, rfl, ⟨⟨rfl, rfl⟩, trivial⟩, rfl, rfl, ⟨rfl, rfl, rfl⟩⟩
theorem f_mvImpl (m : Md) : Fn Tryz.prog 90 [.agg [.sl (m.1.map dI), .sl (m.2.map dR)]] [] (fun rr ii nn => rr = .p (.bool (mOk m)) ∧ ii = [] ∧ nn = []) := by
 refine qjm Tryz.func90 rfl (nb rfl) fun w X g => ?_
 show AWp _ _ _ ⟨[(0, .agg [.sl (m.1.map dI), .sl (m.2.map dR)])], []⟩
 refine rs (qq5 (fun ver => qj3 rfl) fun v1x1 => ?_)
 refine oa rfl (on (qqe (rs (qqa (qqi qjs rfl rfl) (qqa (qqc qq9 rfl rfl rfl) (qqa (qqg Tryz.underlying23 rfl) ?_))))))
 refine qq3 (qqn (v := .p _) (hp1 := []) [] false [] ent113 (qxa _ _ _) ⟨.inl ⟨rfl, rfl⟩, .inl ⟨rfl, rfl⟩, .inl ⟨rfl, rfl⟩, trivial⟩ trivial rfl rfl (fun h => by cases h) rfl (fun _ h => by cases h) (.inl rfl) rfl rfl) ?_
 refine qqa (qzw rfl) (om rfl (qqx 11 rfl (fun h1 => ?_) (fun h1 => ?_)))
 ·
  have h1r := h1
  try simp only [nq, nr] at h1
  refine qqa (qqb rfl rfl h1r) (qqa (qqb rfl rfl h1r) (qqa (qqb rfl rfl h1r) (qqa (qqb rfl rfl h1r) (qqa (qqu rfl h1r (evo rfl)) (on (a_tt rfl ?_))))))
  refine rs (oa rfl (on (qqm ?_)))
  exact qq8 rfl ⟨qqv (by symm; first | exact mOk_s (szs_no (.inl (by omega))) | exact mOk_l (by omega)), rfl, rfl⟩
 have h1r := h1
 try simp only [nq, nr] at h1
 refine qqa (qqd rfl rfl h1r (qqi qzt rfl rfl)) (qqa (qqd rfl rfl h1r (qqc leaf58 rfl rfl rfl)) (qqa (qqd rfl rfl h1r (qqg Tryz.underlying58 rfl)) (qqa (qqd rfl rfl h1r (j_gt rfl rfl)) (qqa (qqt rfl h1r (evo rfl)) (on (ac rfl (fun h2 => ?_) fun h2 => ?_))))))
 ·
  have h2r := h2
  try simp only [nq, nr] at h2
  refine rs (oa rfl (on (qqm ?_)))
  exact qq8 rfl ⟨qqv (by symm; first | exact mOk_s (szs_no (.inl (by omega))) | exact mOk_l (by omega)), rfl, rfl⟩
 have h2r := h2
 try simp only [nq, nr] at h2
 refine qqj (rs (oa rfl (on (qqe (rs (qqa (qqi qjs rfl rfl) (qqa (qqc qq9 rfl rfl rfl) (qqa (qqg Tryz.underlying23 rfl) (om rfl (on (qqf (qqr (ι := Nat) (fun k => k ≤ m.1.length ∧ (m.1.take k).all (fun s => decide (0 ≤ s ∧ s ≤ 3)) = true) (fun k r => (20, .p (.int .i64 ((k : Nat)))) :: (3, .p (.int .i64 (szSum (m.1.take k)))) :: r) (fun k r => r) (fun k => m.1.length - k) (fun _ _ => rfl) (fun _ _ => rfl) 0 ⟨Nat.zero_le _, rfl⟩ ⟨⟨rfl, rfl⟩, ⟨rfl, qzg rfl, trivial⟩, trivial, ⟨rfl, rfl⟩, ⟨rfl, rfl⟩⟩ ?_))))))))))))
 intro k hk
 refine rs (qqa (qzb rfl rfl) (on (qqe (ac rfl (fun h3 => ?_) fun h3 => ?_))))
 ·
  have h3r := h3
  try simp only [nq, nr] at h3
  refine qqj (qqe (qqf (rs (qqa (qqy qqz rfl rfl rfl (qqh zr) rfl) (qqa (qqp qq2 rfl (qqh zr) rfl) (oa rfl (on (qqe (qqe ?_)))))))))
  have hsr := szSum_rng (k := k) (by omega) hk.2
  refine ar (om rfl ?_)
  refine qq3 (qqn (v := .p _) (hp1 := []) [] false [] ent113 (qxa _ _ _) ⟨.inl ⟨rfl, rfl⟩, .inl ⟨rfl, rfl⟩, .inl ⟨rfl, rfl⟩, trivial⟩ trivial rfl rfl (fun h => by cases h) rfl (fun _ h => by cases h) (.inl rfl) rfl rfl) ?_
  refine qqa (qzw rfl) (on (ac rfl (fun h4 => ?_) fun h4 => ?_))
  ·
   have h4r := h4
   try simp only [nq, nr] at h4
   refine rs (oa rfl (on (qqm ?_)))
   exact qq8 rfl ⟨qqv (by symm; exact mOk_s (szs_no (.inr (.inl (all_no (d := default) (k := k) (by omega) (by first | assumption | (rw [decide_eq_false_iff_not]; omega))))))), rfl, rfl⟩
  have h4r := h4
  try simp only [nq, nr] at h4
  refine qqj (ar (om rfl (om rfl (qqa (qjh rfl rfl zr zr) (qqa (qjh rfl rfl zr zr) (oa rfl (on (ar (qqa (qjh rfl rfl zr zr) (om rfl (on ?_)))))))))))
  exact ⟨k + 1, ⟨by omega, all_next (d := default) hk.2 (by omega) (by first | assumption | exact decide_eq_true (by omega))⟩, ⟨⟨rfl, rfl⟩, ⟨rfl, qzg (by rw [szSum_next (by omega)]), trivial⟩, trivial, ⟨rfl, rfl⟩, ⟨rfl, rfl⟩⟩, zr⟩
 have h3r := h3
 try simp only [nq, nr] at h3
 refine qja (qqe ?_)
 have hsr := szSum_rng (k := k) (by omega) hk.2
 obtain rfl : k = m.1.length := by omega
 have hka := hk.2
 rw [List.take_length] at hka hsr ⊢
 refine ar (om rfl (qqa (j_le rfl rfl) (om rfl (qqx 34 rfl (fun h5 => ?_) (fun h5 => ?_)))))
 ·
  have h5r := h5
  try simp only [nq, nr] at h5
  refine qqa (qqd rfl rfl h5r (qqi qzt rfl rfl)) (qqa (qqd rfl rfl h5r (qqc leaf58 rfl rfl rfl)) (qqa (qqd rfl rfl h5r (j_makeFunc (f := 150) (xs := [.tmp 1]) (caps := [.ptr 1 v1x1 0]) rfl)) ?_))
  refine qq3 (qqd rfl rfl h5r (qqn (v := .p _) (hp1 := [(1, some (v1x1, .box 60 [.sl _, .sl _]))]) [(1, v1x1)] false [1] ent149 (f_ctf_Rule_m 60 (m.1.map dI) (m.2.map dR) 150 m.2 (fun r => !rOk m.1.length r) ent150 (fun a _ => f_mv1 a m (by omega))) ⟨.inl ⟨rfl, rfl⟩, .inl ⟨rfl, rfl⟩, trivial⟩ ⟨⟨rfl, rfl⟩, trivial⟩ rfl rfl (fun h => by cases h) rfl (List.all_eq_true.1 rfl) (.inl rfl) rfl rfl)) ?_
  refine qqa (qqd rfl rfl h5r (qzw rfl)) (qqa (qqu rfl h5r (evo rfl)) (oa rfl (on (qqm ?_))))
  exact qq8 rfl ⟨qqv (by first | (rw [mOk_of (szs_of (by omega) hka (by omega)) (by omega), ← qjq]; done) | (symm; exact mOk_s (szs_no (.inr (.inr (by omega)))))), rfl, rfl⟩
 have h5r := h5
 try simp only [nq, nr] at h5
 refine qqa (qqb rfl rfl h5r) (qqa (qqb rfl rfl h5r) (qqa (qqb rfl rfl h5r) (qqa (qqb rfl rfl h5r) (qqa (qqb rfl rfl h5r) (qqa (qqt rfl h5r (evo rfl)) (oa rfl (on (qqm ?_))))))))
 exact qq8 rfl ⟨qqv (by first | (rw [mOk_of (szs_of (by omega) hka (by omega)) (by omega), ← qjq]; done) | (symm; exact mOk_s (szs_no (.inr (.inr (by omega)))))), rfl, rfl⟩
end Go.Ab

/- Walks. -/
import Derived.Test.YtoodaakcfelaaaaGreatBase
import Derived.Test.YtoodaakcfelaaaaGreatPf2
import Derived.Test.YtoodaakcfelaaaaGreatWsprop
import Derived.Test.YtoodaakcfelaaaaGreatWsmod
namespace Go.Ab
open Go.Proofs
set_option maxRecDepth 100000
set_option maxHeartbeats 8000000
set_option linter.unusedSimpArgs false
set_option linter.unusedVariables false
theorem f_len64 (x : Nat) (hx : x ≤ 12) : Fn Tryz.prog 218 [.p (.int .u64 (x : Nat))] [] (fun rr ii nn => ∃ x : Int, (0 ≤ x ∧ x ≤ 1000) ∧ rr = .p (.int .i64 (x)) ∧ ii = [] ∧ nn = []) := by
 refine qjm Tryz.func218 rfl (nb rfl) fun w X g => ?_
 show AWp _ _ _ ⟨[(0, .p (.int .u64 (x : Nat)))], []⟩
 have hlt := (lenT x).toNat_lt
 have hwl : IntKind.i64.wrap ((lenT x).toNat : Int) = (lenT x).toNat := wrap64_of (by omega) (by omega)
 refine rs (oa rfl (on (qqe (rs (om rfl (qqa (j_ge rfl rfl) (on (ac rfl (fun h1 => ?_) fun h1 => ?_))))))))
 ·
  have h1r := h1
  try simp only [nq, nr] at h1
  exact absurd (of_decide_eq_true h1r) (by omega)
 have h1r := h1
 try simp only [nq, nr] at h1
 refine qqj (qqe (rs (om rfl (qqa (j_ge rfl rfl) (on (ac rfl (fun h2 => ?_) fun h2 => ?_))))))
 ·
  have h2r := h2
  try simp only [nq, nr] at h2
  exact absurd (of_decide_eq_true h2r) (by omega)
 have h2r := h2
 try simp only [nq, nr] at h2
 refine qqj (qqe (rs (om rfl (qqa (j_ge rfl rfl) (on (ac rfl (fun h3 => ?_) fun h3 => ?_))))))
 ·
  have h3r := h3
  try simp only [nq, nr] at h3
  exact absurd (of_decide_eq_true h3r) (by omega)
 have h3r := h3
 try simp only [nq, nr] at h3
 refine qqj (rs (om rfl (om rfl (qqa (j_conv Tryz.underlying225 Tryz.underlying5 rfl) (qqa (j_index_strN (n := x) (c := lenT x) Tryz.underlying9 rfl rfl (wrapU8 hx) (by rcases (by omega : x = 0 ∨ x = 1 ∨ x = 2 ∨ x = 3 ∨ x = 4 ∨ x = 5 ∨ x = 6 ∨ x = 7 ∨ x = 8 ∨ x = 9 ∨ x = 10 ∨ x = 11 ∨ x = 12) with h | h | h | h | h | h | h | h | h | h | h | h | h <;> (subst h; rfl))) (qqa (j_conv Tryz.underlying5 Tryz.underlying3 rfl) (qqa (qjh rfl rfl (by omega) (by omega)) (oa rfl (on (qqm ?_))))))))))
 exact qq8 rfl ⟨_, (by omega), rfl, rfl, rfl⟩
theorem f_bitsLen (x : Nat) (hx : x ≤ 12) : Fn Tryz.prog 168 [.p (.int .u64 (x : Nat))] [] (fun rr ii nn => ∃ x : Int, (0 ≤ x ∧ x ≤ 1000) ∧ rr = .p (.int .i64 (x)) ∧ ii = [] ∧ nn = []) := by
 refine qjm Tryz.func168 rfl (nb rfl) fun w X g => ?_
 show AWp _ _ _ ⟨[(0, .p (.int .u64 (x : Nat)))], []⟩
 refine rs (oa rfl (on (qqe (a_ff rfl ?_))))
 refine qqj (rs (om rfl (op_callE (v := fun x => .p _) (hp1 := fun x => []) [] false ent218 (f_len64 x hx) ⟨.inl ⟨rfl, rfl⟩, trivial⟩ trivial rfl (fun _ => rfl) (fun _ => rfl) (.inl rfl) (fun _ => rfl) (fun _ => rfl) ?_)))
 rintro z7 hz7
 try dsimp only at hz7
 dsimp only [List.cons_append, List.nil_append]
 refine oa rfl (on (qqm ?_))
 exact qq8 rfl ⟨z7, hz7, rfl, rfl, rfl⟩
theorem f_clCmp (a b : Int) (ha : litOk a = true) (hb : litOk b = true) : Fn Tryz.prog 110 [.p (.int .i64 (a)), .p (.int .i64 (b))] [] (fun rr ii nn => rr = .p (.int .i64 (varOf a - varOf b)) ∧ ii = [] ∧ nn = []) := by
 refine qjm Tryz.func110 rfl (nb rfl) fun w X g => ?_
 show AWp _ _ _ ⟨[(0, .p (.int .i64 (a))), (1, .p (.int .i64 (b)))], []⟩
 have h1 := litOk_iff.1 ha
 have h2 := litOk_iff.1 hb
 have h3 : 0 ≤ varOf a ∧ varOf a ≤ 12 := by unfold varOf; omega
 have h4 : 0 ≤ varOf b ∧ varOf b ≤ 12 := by unfold varOf; omega
 refine rs (oa rfl (on (rs (om rfl ?_))))
 refine qq3 (qqn (v := .p _) (hp1 := []) [] false [] ent111 (f_varOf _ (by omega)) ⟨.inl ⟨rfl, rfl⟩, trivial⟩ trivial rfl rfl (fun h => by cases h) rfl (fun _ h => by cases h) (.inl rfl) rfl rfl) ?_
 refine om rfl ?_
 refine qq3 (qqn (v := .p _) (hp1 := []) [] false [] ent111 (f_varOf _ (by omega)) ⟨.inl ⟨rfl, rfl⟩, trivial⟩ trivial rfl rfl (fun h => by cases h) rfl (fun _ h => by cases h) (.inl rfl) rfl rfl) ?_
 refine qqa (qzy rfl rfl (by omega) (by omega)) (oa rfl (on (qqm ?_)))
 exact qq8 rfl ⟨rfl, rfl, rfl⟩
theorem f_insSort (L : List Int) (h : asc L) : Fn Tryz.prog 209 [.own 0 0, .p (.int .i64 (0)), .p (.int .i64 ((L.length : Nat))), .fn 110 []] [.row 3 1 (L.map dI)] (fun rr ii nn => rr = .tup [] ∧ ii = [.row 3 1 (L.map dI)] ∧ nn = []) := by
 refine qjm Tryz.func209 rfl (nb rfl) fun w X g => ?_
 show AWp _ _ _ ⟨[(0, .own 0 0), (1, .p (.int .i64 (0))), (2, .p (.int .i64 ((L.length : Nat)))), (3, .fn 110 [])], [(0, some (0, .row 3 1 (L.map dI)))]⟩
 have hl12 := asc_len h
 refine rs (om rfl (qqa (qjh rfl rfl zr zr) (oa rfl (on (qqf (qqr (ι := Nat) (fun k => 1 ≤ k) (fun k r => (8, .p (.int .i64 ((k : Nat)))) :: r) (fun k r => (0, some (0, .row 3 1 (L.map dI))) :: r) (fun k => L.length - k) (fun _ _ => rfl) (fun _ _ => rfl) 1 (Nat.le_refl _) ⟨⟨rfl, rfl⟩, ⟨rfl, trivial⟩, ⟨rfl, trivial⟩, ⟨rfl, rfl⟩, ⟨rfl, rfl⟩⟩ ?_))))))
 intro k hk
 refine qqe (rs (om rfl (om rfl (qqa (qzb rfl rfl) (on (ac rfl (fun h1 => ?_) fun h1 => ?_))))))
 ·
  have h1r := h1
  try simp only [nq, nr] at h1
  refine qqj (qqe (qqf (rs (om rfl (oa rfl (on (qqf (qqr (ι := Nat) (fun j => j = k) (fun j r => (9, .p (.int .i64 ((k : Nat)))) :: r) (fun j r => (0, some (0, .row 3 1 (L.map dI))) :: r) (fun j => 0) (fun _ _ => rfl) (fun _ _ => rfl) k rfl ⟨⟨rfl, rfl⟩, ⟨rfl, trivial⟩, ⟨rfl, trivial⟩, ⟨rfl, rfl⟩, ⟨rfl, rfl⟩⟩ ?_))))))))
  intro j hj
  refine qqe (qqe (qjz qzj (by kernel_rfl) (by kernel_rfl) fun vf => ?_))
  refine qqq (qql (evo rfl)) (qqq (qql (evo rfl)) (qqq (j_gt rfl rfl) (qqq (qql (evo rfl)) (d_split' 21 rfl (fun h2 => ?_) (fun h2 => ?_)))))
  ·
   have h2r := h2
   try simp only [nq, nr] at h2
   refine qqq (qqd rfl rfl h2r (qql (evo rfl))) (qqq (qqd rfl rfl h2r (qql (evo rfl))) (qqq (qqd rfl rfl h2r (qql (evo rfl))) (qqq (qqd rfl rfl h2r (qqo (n := k) qqz rfl rfl rfl zr zr)) (qqq (qqd rfl rfl h2r (qjd qq2 rfl rfl (qqh zr) rfl)) (qqq (qqd rfl rfl h2r (qql (evo rfl))) (qqq (qqd rfl rfl h2r (qql (evo rfl))) (qqq (qqd rfl rfl h2r (qzy rfl rfl zr zr)) (qqq (qqd rfl rfl h2r (qqo (n := k - 1) qqz rfl rfl rfl (by omega) zr)) (qqq (qqd rfl rfl h2r (qjd qq2 rfl rfl (qqh zr) rfl)) ?_)))))))))
   refine d_v0' (qqd rfl rfl h2r (j_callF0 (v := .p _) (hp1 := []) [] false [] rfl ent110 (f_clCmp (L.getD k default) (L.getD (k - 1) default) (asc_at h (by omega)) (asc_at h (by omega))) ⟨.inl ⟨rfl, rfl⟩, .inl ⟨rfl, rfl⟩, trivial⟩ trivial rfl rfl (fun h => by cases h) rfl (fun _ h => by cases h) (.inl rfl) rfl rfl)) ?_
   refine qqq (qqd rfl rfl h2r (qzb rfl rfl)) (qqq (qqu rfl h2r (evo rfl)) (qze (by kernel_rfl) (by kernel_rfl) ?_))
   refine ac rfl (fun h3 => ?_) fun h3 => ?_
   ·
    have h3r := h3
    try simp only [nq, nr] at h3
    exact absurd h3r (by have h9 := asc_lt' h (k := k) (by omega) (by omega); simp; omega)
   have h3r := h3
   try simp only [nq, nr] at h3
   refine qja (ar (om rfl (qqa (qjh rfl rfl zr zr) (oa rfl (on ?_)))))
   exact ⟨k + 1, zr, ⟨⟨rfl, rfl⟩, ⟨rfl, trivial⟩, ⟨rfl, trivial⟩, ⟨rfl, rfl⟩, ⟨rfl, rfl⟩⟩, zr⟩
  have h2r := h2
  try simp only [nq, nr] at h2
  refine qqq (qqb rfl rfl h2r) (qqq (qqb rfl rfl h2r) (qqq (qqb rfl rfl h2r) (qqq (qqb rfl rfl h2r) (qqq (qqb rfl rfl h2r) (qqq (qqb rfl rfl h2r) (qqq (qqb rfl rfl h2r) (qqq (qqb rfl rfl h2r) (qqq (qqb rfl rfl h2r) (qqq (qqb rfl rfl h2r) (qqq (qqb rfl rfl h2r) (qqq (qqb rfl rfl h2r) (qqq (qqt rfl h2r (evo rfl)) (qze (by kernel_rfl) (by kernel_rfl) ?_)))))))))))))
  refine a_ff rfl ?_
  refine qja (ar (om rfl (qqa (qjh rfl rfl zr zr) (oa rfl (on ?_)))))
  exact ⟨k + 1, zr, ⟨⟨rfl, rfl⟩, ⟨rfl, trivial⟩, ⟨rfl, trivial⟩, ⟨rfl, rfl⟩, ⟨rfl, rfl⟩⟩, zr⟩
 have h1r := h1
 try simp only [nq, nr] at h1
 refine qja ?_
 exact ⟨[], .tup [], [.row 3 1 _], [], [], trivial, rfl, rfl, ⟨⟨rfl, rfl⟩, trivial⟩, rfl, rfl, ⟨rfl, rfl, rfl⟩⟩
theorem f_pdq (L : List Int) (h : asc L) (m : Int) : Fn Tryz.prog 167 [.own 0 0, .p (.int .i64 (0)), .p (.int .i64 ((L.length : Nat))), .p (.int .i64 (m)), .fn 110 []] [.row 3 1 (L.map dI)] (fun rr ii nn => rr = .tup [] ∧ ii = [.row 3 1 (L.map dI)] ∧ nn = []) := by
 refine qjm Tryz.func167 rfl (nb rfl) fun w X g => ?_
 show AWp _ _ _ ⟨[(0, .own 0 0), (1, .p (.int .i64 (0))), (2, .p (.int .i64 ((L.length : Nat)))), (3, .p (.int .i64 (m))), (4, .fn 110 [])], [(0, some (0, .row 3 1 (L.map dI)))]⟩
 have hl12 := asc_len h
 refine rs (oa rfl (on (rs (oa rfl (on (qqf (qqr (ι := Nat) (fun k => k = 0) (fun k r => r) (fun k r => (0, some (0, .row 3 1 (L.map dI))) :: r) (fun k => 0) (fun _ _ => rfl) (fun _ _ => rfl) 0 rfl ⟨⟨rfl, rfl⟩, trivial, ⟨rfl, trivial⟩, ⟨rfl, rfl⟩, ⟨rfl, rfl⟩⟩ ?_)))))))
 intro k hk
 refine qqf (rs (om rfl (om rfl (qqa (qzy rfl rfl zr zr) (oa rfl (on (qqe (rs (om rfl (qqa (j_le rfl rfl) (on (ac rfl (fun h1 => ?_) fun h1 => ?_))))))))))))
 ·
  have h1r := h1
  try simp only [nq, nr] at h1
  refine rs (om rfl (om rfl (om rfl (om rfl ?_))))
  refine qq3 (qqn (v := .tup []) (hp1 := [(0, some (0, .row 3 1 _))]) [(0, 0)] false [0] ent209 (f_insSort L h) ⟨.inl ⟨rfl, rfl⟩, .inl ⟨rfl, rfl⟩, .inl ⟨rfl, rfl⟩, .inl ⟨rfl, rfl⟩, trivial⟩ ⟨⟨rfl, rfl⟩, trivial⟩ rfl rfl (fun h => by cases h) rfl (List.all_eq_true.1 rfl) (.inl rfl) rfl rfl) ?_
  refine on (qqm ?_)
  exact ⟨[], .tup [], [.row 3 1 _], [], [], trivial, rfl, rfl, ⟨⟨rfl, rfl⟩, trivial⟩, rfl, rfl, ⟨rfl, rfl, rfl⟩⟩
 have h1r := h1
 try simp only [nq, nr] at h1
 exact absurd (of_decide_eq_false h1r) (by omega)
theorem f_sortFunc (L : List Int) (h : asc L) : Fn Tryz.prog 109 [.own 0 0, .fn 110 []] [.row 3 1 (L.map dI)] (fun rr ii nn => rr = .tup [] ∧ ii = [.row 3 1 (L.map dI)] ∧ nn = []) := by
 refine qjm Tryz.func109 rfl (nb rfl) fun w X g => ?_
 show AWp _ _ _ ⟨[(0, .own 0 0), (1, .fn 110 [])], [(0, some (0, .row 3 1 (L.map dI)))]⟩
 have hl12 := asc_len h
 have hb9 := f_bitsLen L.length hl12
 rw [← wrapU64 hl12] at hb9
 refine rs (om rfl (qqa (qq7 Tryz.underlying23 rfl rfl) (oa rfl (on (ar (om rfl (om rfl (om rfl (qqa (j_conv Tryz.underlying3 Tryz.underlying187 rfl) (op_callE (v := fun x => .p _) (hp1 := fun x => []) [] false ent168 hb9 ⟨.inl ⟨rfl, rfl⟩, trivial⟩ trivial rfl (fun _ => rfl) (fun _ => rfl) (.inl rfl) (fun _ => rfl) (fun _ => rfl) ?_))))))))))
 rintro z11 hz11
 try dsimp only at hz11
 dsimp only [List.cons_append, List.nil_append]
 refine om rfl ?_
 refine qq3 (qqn (v := .tup []) (hp1 := [(0, some (0, .row 3 1 _))]) [(0, 0)] false [0] ent167 (f_pdq L h z11) ⟨.inl ⟨rfl, rfl⟩, .inl ⟨rfl, rfl⟩, .inl ⟨rfl, rfl⟩, .inl ⟨rfl, rfl⟩, .inl ⟨rfl, rfl⟩, trivial⟩ ⟨⟨rfl, rfl⟩, trivial⟩ rfl rfl (fun h => by cases h) rfl (List.all_eq_true.1 rfl) (.inl rfl) rfl rfl) ?_
 refine on ?_
 exact ⟨[], .tup [], [.row 3 1 _], [], [], trivial, rfl, rfl, ⟨⟨rfl, rfl⟩, trivial⟩, rfl, rfl, ⟨rfl, rfl, rfl⟩⟩
theorem f_compact (L : List Int) (h : asc L) : Fn Tryz.prog 112 [.own 0 0] [.row 3 1 (L.map dI)] (fun rr ii nn => rr = .own 0 0 ∧ ii = [.row 3 1 (L.map dI)] ∧ nn = []) := by
 refine qjm Tryz.func112 rfl (nb rfl) fun w X g => ?_
 show AWp _ _ _ ⟨[(0, .own 0 0)], [(0, some (0, .row 3 1 (L.map dI)))]⟩
 have hl12 := asc_len h
 refine rs (oa rfl (on (qqe (rs (om rfl (qqa (qq7 Tryz.underlying23 rfl rfl) (qqa (qzb rfl rfl) (on (ac rfl (fun h1 => ?_) fun h1 => ?_)))))))))
 ·
  have h1r := h1
  try simp only [nq, nr] at h1
  refine rs (om rfl (oa rfl (on (qqm ?_))))
  exact ⟨[.own 0 0], .own 0 0, [.row 3 1 _], [], [], ⟨rfl, trivial⟩, rfl, rfl, ⟨⟨rfl, rfl⟩, trivial⟩, rfl, rfl, ⟨rfl, rfl, rfl⟩⟩
 have h1r := h1
 try simp only [nq, nr] at h1
 refine qqj (qqe (rs (oa rfl (on (qqf (qqr (ι := Nat) (fun k => 1 ≤ k ∧ k ≤ L.length) (fun k r => (3, .p (.int .i64 ((k : Nat)))) :: r) (fun k r => (0, some (0, .row 3 1 (L.map dI))) :: r) (fun k => L.length - k) (fun _ _ => rfl) (fun _ _ => rfl) 1 ⟨Nat.le_refl _, zr⟩ ⟨⟨rfl, rfl⟩, ⟨rfl, trivial⟩, ⟨rfl, trivial⟩, ⟨rfl, rfl⟩, ⟨rfl, rfl⟩⟩ ?_))))))
 intro k hk
 refine qqe (rs (om rfl (om rfl (qqa (qq7 Tryz.underlying23 rfl rfl) (qqa (qzb rfl rfl) (on (ac rfl (fun h2 => ?_) fun h2 => ?_)))))))
 ·
  have h2r := h2
  try simp only [nq, nr] at h2
  refine qqj (qqe (qqf (qqe (qjz qzj (by kernel_rfl) (by kernel_rfl) fun vf => ?_))))
  refine qqq (qql (evo rfl)) (qqq (qql (evo rfl)) (qqq (qqo (n := k) qqz rfl rfl rfl rfl zr) (qqq (qjd qq2 rfl rfl (qqh zr) rfl) (qqq (qql (evo rfl)) (qqq (qql (evo rfl)) (qqq (qzy rfl rfl zr zr) (qqq (qqo (n := k - 1) qqz rfl rfl rfl (by omega) zr) (qqq (qjd qq2 rfl rfl (qqh zr) rfl) (qqq (qz4 rfl rfl) (qze (by kernel_rfl) (by kernel_rfl) ?_))))))))))
  refine ac rfl (fun h3 => ?_) fun h3 => ?_
  ·
   have h3r := h3
   try simp only [nq, nr] at h3
   exact absurd (of_decide_eq_true h3r) (asc_ne h (by omega) (by omega))
  have h3r := h3
  try simp only [nq, nr] at h3
  refine qqj (ar (om rfl (qqa (qjh rfl rfl zr zr) (oa rfl (on ?_)))))
  exact ⟨k + 1, ⟨by omega, by first | omega | (simp only [nr]; omega)⟩, ⟨⟨rfl, rfl⟩, ⟨rfl, trivial⟩, ⟨rfl, trivial⟩, ⟨rfl, rfl⟩, ⟨rfl, rfl⟩⟩, zr⟩
 have h2r := h2
 try simp only [nq, nr] at h2
 refine qja (rs (om rfl (oa rfl (on (qqm ?_)))))
 exact ⟨[.own 0 0], .own 0 0, [.row 3 1 _], [], [], ⟨rfl, trivial⟩, rfl, rfl, ⟨⟨rfl, rfl⟩, trivial⟩, rfl, rfl, ⟨rfl, rfl, rfl⟩⟩
theorem f_clauseImpl (L : List Int) (h : asc L) : Fn Tryz.prog 42 [.sl (L.map dI)] [] (fun rr ii nn => rr = .tup [.agg [.sl ((L.map oneL).map dT), .p (.int .i64 1)], .p (.bool true)] ∧ ii = [] ∧ nn = []) := by
 refine qjm Tryz.func42 rfl (nb rfl) fun w X g => ?_
 show AWp _ _ _ ⟨[(0, .sl (L.map dI))], []⟩
 have hl12 := asc_len h
 refine rs (qq5 (fun ver => qjv qz5 rfl) fun v2x1 => ?_)
 refine oa rfl (on (qqe (rs (om rfl (qqa (qqg Tryz.underlying23 rfl) (qqa (j_gt rfl rfl) (on (ac rfl (fun h1 => ?_) fun h1 => ?_))))))))
 ·
  have h1r := h1
  try simp only [nq, nr, nl] at h1
  exact absurd (of_decide_eq_true h1r) (by omega)
 have h1r := h1
 try simp only [nq, nr, nl] at h1
 refine qqj (qqe (rs (om rfl (qqa (qqg Tryz.underlying23 rfl) (om rfl (on (qqf (qqr (ι := Nat) (fun k => k ≤ L.length) (fun k r => (16, .p (.int .i64 ((k : Nat)))) :: r) (fun k r => r) (fun k => L.length - k) (fun _ _ => rfl) (fun _ _ => rfl) 0 (Nat.zero_le _) ⟨⟨rfl, rfl⟩, ⟨rfl, trivial⟩, trivial, ⟨rfl, rfl⟩, ⟨rfl, rfl⟩⟩ ?_))))))))
 intro k hk
 refine rs (qqa (qzb rfl rfl) (on (qqe (ac rfl (fun h2 => ?_) fun h2 => ?_))))
 ·
  have h2r := h2
  try simp only [nq, nr, nl] at h2
  refine qqj (qqe (qqf (rs (qqa (qqy qqz rfl rfl rfl (qqh zz) rfl) (qqa (qqp qq2 rfl (qqh zz) rfl) (oa rfl (on (qqe ?_))))))))
  have hli := litOk_iff.1 (asc_at h (k := k) zz)
  refine ar (om rfl ?_)
  refine qq3 (qqn (v := .p _) (hp1 := []) [] false [] ent106 (f_isLit (L.getD k default)) ⟨.inl ⟨rfl, rfl⟩, trivial⟩ trivial rfl rfl (fun h => by cases h) rfl (fun _ h => by cases h) (.inl rfl) rfl rfl) ?_
  refine qqa (qzw rfl) (om rfl (qqx 23 rfl (fun h3 => ?_) (fun h3 => ?_)))
  ·
   have h3r := h3
   try simp only [nq, nr, nl] at h3
   exact absurd h3r (by first | (rw [asc_at h (k := k) (by omega)]; decide) | (rw [decide_eq_true_eq]; exact asc_noneg h (by omega)))
  have h3r := h3
  try simp only [nq, nr, nl] at h3
  refine qqa (qqd rfl rfl h3r (qql (evo rfl))) (qqa (qqd rfl rfl h3r (qql (evo rfl))) (qqa (qqd rfl rfl h3r (j_neg rfl zz zz)) ?_))
  refine qq3 (qqd rfl rfl h3r (qqn (v := .p _) (hp1 := []) [] false [] ent107 (f_containsInt L (-(L.getD k default))) ⟨.inl ⟨rfl, rfl⟩, .inl ⟨rfl, rfl⟩, trivial⟩ trivial rfl rfl (fun h => by cases h) rfl (fun _ h => by cases h) (.inl rfl) rfl rfl)) ?_
  refine qqa (qqt rfl h3r (evo rfl)) (on (ac rfl (fun h4 => ?_) fun h4 => ?_))
  ·
   have h4r := h4
   try simp only [nq, nr, nl] at h4
   exact absurd h4r (by first | (rw [asc_at h (k := k) (by omega)]; decide) | (rw [decide_eq_true_eq]; exact asc_noneg h (by omega)))
  have h4r := h4
  try simp only [nq, nr, nl] at h4
  refine qqj (ar (qqa (qjh rfl rfl zz zz) (om rfl (on ?_))))
  exact ⟨k + 1, zz, ⟨⟨rfl, rfl⟩, ⟨rfl, trivial⟩, trivial, ⟨rfl, rfl⟩, ⟨rfl, rfl⟩⟩, zz⟩
 have h2r := h2
 try simp only [nq, nr, nl] at h2
 refine qja (rs (om rfl ?_))
 refine qj9 (fun ver => qj8 (v := .own 32 ver) (hp1 := [(32, some (ver, .row 3 1 _))]) [] false [] ent108 (f_cloneI L (by omega)) ⟨.inl ⟨rfl, rfl⟩, trivial⟩ trivial rfl rfl rfl (fun h => by cases h) rfl (List.all_eq_true.1 rfl) (.inl rfl) rfl rfl) fun v32x2 => ?_
 refine oa rfl (on (rs (om rfl ?_)))
 refine qq3 (qqn (v := .tup []) (hp1 := [(32, some (v32x2, .row 3 1 _))]) [(32, v32x2)] false [32] ent109 (f_sortFunc L h) ⟨.inl ⟨rfl, rfl⟩, .inl ⟨rfl, rfl⟩, trivial⟩ ⟨⟨rfl, rfl⟩, trivial⟩ rfl rfl (fun h => by cases h) rfl (List.all_eq_true.1 rfl) (.inl rfl) rfl rfl) ?_
 refine on (rs (qqa (qzu (parts := [(1, .const (.int .i64 1))]) str69 qz5 rfl rfl) ?_))
 refine qq5 (fun ver => qjv qz5 rfl) fun v7x3 => ?_
 refine qjo (qqs qzn rfl rfl rfl rfl rfl rfl) ?_
 refine on (qj2 0 1007 135 2 (by decide) (id := 7) rfl rfl fun v1007x4 => ?_)
 refine qqe (rs (om rfl ?_))
 refine qq3 (qqn (v := .own 32 v32x2) (hp1 := [(32, some (v32x2, .row 3 1 _))]) [(32, v32x2)] false [32] ent112 (f_compact L h) ⟨.inl ⟨rfl, rfl⟩, trivial⟩ ⟨⟨rfl, rfl⟩, trivial⟩ rfl rfl (fun h => by cases h) rfl (List.all_eq_true.1 rfl) (.inl rfl) rfl rfl) ?_
 refine qqa (qq7 Tryz.underlying23 rfl rfl) (om rfl (on (qqf (qqr (ι := Nat × Nat) (fun x => x.1 ≤ L.length) (fun x r => (39, .p (.int .i64 ((x.1 : Nat)))) :: r) (fun x r => (7, some (v7x3, .box 69 [.own 1007 x.2, .p (.int .i64 1)])) :: (1007, some (x.2, .row 135 2 (((L.take x.1).map oneL).map dT))) :: r) (fun x => L.length - x.1) (fun _ _ => rfl) (fun _ _ => rfl) (0, v1007x4) (by first | exact (Nat.zero_le _) | (dsimp only; exact (Nat.zero_le _))) ⟨⟨rfl, rfl⟩, ⟨rfl, trivial⟩, ⟨rfl, rfl, trivial⟩, ⟨rfl, rfl⟩, ⟨rfl, rfl⟩⟩ ?_))))
 rintro ⟨j, w⟩ hj; dsimp only at hj ⊢
 refine rs (qqa (qzb rfl rfl) (on (qqe (ac rfl (fun h5 => ?_) fun h5 => ?_))))
 ·
  have h5r := h5
  try simp only [nq, nr, nl] at h5
  refine qqj (qqe (qqf (rs (qqa (qqo qqz rfl rfl rfl rfl zz) (qqa (qjd qq2 rfl rfl (qqh zz) rfl) (oa rfl (on (ar (qqa (qqi fld69f0 rfl rfl) (qqa (qqc leaf67 rfl rfl rfl) (om rfl (qqa (qzu (parts := [(0, .const (.int .i64 1)), (1, .tmp 45)]) str135 qz3 rfl rfl) ?_))))))))))))
  refine qq5 (fun ver => qqw (parts := [(0, .tmp 46)]) (es := [[_, _]]) slt67 qz3 rfl rfl (by decide) (by decide) rfl rfl (by simp) rfl) fun v47x5 => ?_
  refine qq5 (fun ver => qq6 slt67 qz3 rfl rfl rfl rfl rfl rfl (by rw [qq0]; first | omega | (simp only [nr, nl]; omega)) zz) fun v1007x6 => ?_
  refine qqa (qqi fld69f0 rfl rfl) (qjo (qje leaf67 rfl rfl (nb rfl) (evo rfl) rfl) ?_)
  refine on (ar (qqa (qjh rfl rfl zz zz) (om rfl (on ?_))))
  exact ⟨(j + 1, v1007x6), (by first | exact zz | (dsimp only; exact zz)), ⟨⟨rfl, rfl⟩, ⟨rfl, trivial⟩, ⟨rfl, qza (by dsimp only; rw [qjn (d := (default : Int)) zz, List.map_append, List.map_append]; rfl), trivial⟩, ⟨rfl, rfl⟩, ⟨rfl, rfl⟩⟩, (by first | exact zz | (dsimp only; exact zz))⟩
 have h5r := h5
 try simp only [nq, nr, nl] at h5
 refine qja (qqe (qjf 0 7 (by decide) trivial rfl rfl rfl rfl ?_))
 try dsimp only [List.set]
 refine ar (qqa (qqk (ys := [.sl _, .p _]) qzn rfl rfl rfl (nb rfl)) (qjo (qqs qzn rfl rfl rfl rfl rfl rfl) ?_))
 refine oa rfl (on (qqm ?_))
 exact ⟨[.agg [.sl _, .p _], .p _], .tup [.agg [.sl _, .p _], .p _], [], [], [], ⟨⟨_, _, _, _, rfl, rfl, qzn, rfl⟩, rfl, trivial⟩, rfl, rfl, trivial, rfl, rfl, ⟨by rw [List.take_of_length_le zz], rfl, rfl⟩⟩
end Go.Ab

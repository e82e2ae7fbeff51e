/- Walks. -/
import Derived.Test.YtoodaakcfelaaaaBase
import Derived.Test.YtoodaakcfelaaaaCub
import Derived.Test.YtoodaakcfelaaaaWsprop
import Derived.Test.YtoodaakcfelaaaaWsmod
namespace Go.Ab
open Go.Proofs
set_option maxRecDepth 100000
set_option maxHeartbeats 8000000
set_option linter.unusedSimpArgs false
set_option linter.unusedVariables false
theorem f_len64 (x : Nat) (hx : x ≤ 12) : Fn Try.prog 107 [.p (.int .u64 (x : Nat))] [] (fun rr ii nn => ∃ x : Int, (0 ≤ x ∧ x ≤ 1000) ∧ rr = .p (.int .i64 (x)) ∧ ii = [] ∧ nn = []) := by
 refine qjj Try.func107 rfl (nb rfl) fun w X g => ?_
 show AWp _ _ _ ⟨[(0, .p (.int .u64 (x : Nat)))], []⟩
 have hlt := (lenT x).toNat_lt
 have hwl : IntKind.i64.wrap ((lenT x).toNat : Int) = (lenT x).toNat := wrap64_of (by omega) (by omega)
 refine rs (oa rfl (on (qqd (rs (om rfl (qqa (j_ge rfl rfl) (on (ac rfl (fun h1 => ?_) fun h1 => ?_))))))))
 ·
  have h1r := h1
  try simp only [nq, nr] at h1
  exact absurd (of_decide_eq_true h1r) (by omega)
 have h1r := h1
 try simp only [nq, nr] at h1
 refine qqg (qqd (rs (om rfl (qqa (j_ge rfl rfl) (on (ac rfl (fun h2 => ?_) fun h2 => ?_))))))
 ·
  have h2r := h2
  try simp only [nq, nr] at h2
  exact absurd (of_decide_eq_true h2r) (by omega)
 have h2r := h2
 try simp only [nq, nr] at h2
 refine qqg (qqd (rs (om rfl (qqa (j_ge rfl rfl) (on (ac rfl (fun h3 => ?_) fun h3 => ?_))))))
 ·
  have h3r := h3
  try simp only [nq, nr] at h3
  exact absurd (of_decide_eq_true h3r) (by omega)
 have h3r := h3
 try simp only [nq, nr] at h3
 refine qqg (rs (om rfl (om rfl (qqa (j_conv Try.underlying136 Try.underlying5 rfl) (qqa (j_index_strN (n := x) (c := lenT x) Try.underlying9 rfl rfl (wrapU8 hx) (by rcases (by omega : x = 0 ∨ x = 1 ∨ x = 2 ∨ x = 3 ∨ x = 4 ∨ x = 5 ∨ x = 6 ∨ x = 7 ∨ x = 8 ∨ x = 9 ∨ x = 10 ∨ x = 11 ∨ x = 12) with h | h | h | h | h | h | h | h | h | h | h | h | h <;> (subst h; rfl))) (qqa (j_conv Try.underlying5 Try.underlying3 rfl) (qqa (qje rfl rfl (by omega) (by omega)) (oa rfl (on (qql ?_))))))))))
 exact qjh rfl ⟨_, (by omega), rfl, rfl, rfl⟩
theorem f_bitsLen (x : Nat) (hx : x ≤ 12) : Fn Try.prog 97 [.p (.int .u64 (x : Nat))] [] (fun rr ii nn => ∃ x : Int, (0 ≤ x ∧ x ≤ 1000) ∧ rr = .p (.int .i64 (x)) ∧ ii = [] ∧ nn = []) := by
 refine qjj Try.func97 rfl (nb rfl) fun w X g => ?_
 show AWp _ _ _ ⟨[(0, .p (.int .u64 (x : Nat)))], []⟩
 refine rs (oa rfl (on (qqd (a_ff rfl ?_))))
 refine qqg (rs (om rfl (op_callE (v := fun x => .p _) (hp1 := fun x => []) [] false ent107 (f_len64 x hx) ⟨.inl ⟨rfl, rfl⟩, trivial⟩ trivial rfl (fun _ => rfl) (fun _ => rfl) (.inl rfl) (fun _ => rfl) (fun _ => rfl) ?_)))
 rintro z7 hz7
 try dsimp only at hz7
 dsimp only [List.cons_append, List.nil_append]
 refine oa rfl (on (qql ?_))
 exact qjh rfl ⟨z7, hz7, rfl, rfl, rfl⟩
theorem f_clCmp (a b : Int) (ha : litOk a = true) (hb : litOk b = true) : Fn Try.prog 92 [.p (.int .i64 (a)), .p (.int .i64 (b))] [] (fun rr ii nn => rr = .p (.int .i64 (varOf a - varOf b)) ∧ ii = [] ∧ nn = []) := by
 refine qjj Try.func92 rfl (nb rfl) fun w X g => ?_
 show AWp _ _ _ ⟨[(0, .p (.int .i64 (a))), (1, .p (.int .i64 (b)))], []⟩
 have h1 := litOk_iff.1 ha
 have h2 := litOk_iff.1 hb
 have h3 : 0 ≤ varOf a ∧ varOf a ≤ 12 := by unfold varOf; omega
 have h4 : 0 ≤ varOf b ∧ varOf b ≤ 12 := by unfold varOf; omega
 refine rs (oa rfl (on (rs (om rfl ?_))))
 refine qq4 (qqp (v := .p _) (hp1 := []) [] false [] ent70 (f_varOf _ (by omega)) ⟨.inl ⟨rfl, rfl⟩, trivial⟩ trivial rfl rfl (fun h => by cases h) rfl (fun _ h => by cases h) (.inl rfl) rfl rfl) ?_
 refine om rfl ?_
 refine qq4 (qqp (v := .p _) (hp1 := []) [] false [] ent70 (f_varOf _ (by omega)) ⟨.inl ⟨rfl, rfl⟩, trivial⟩ trivial rfl rfl (fun h => by cases h) rfl (fun _ h => by cases h) (.inl rfl) rfl rfl) ?_
 refine qqa (j_sub rfl rfl (by omega) (by omega)) (oa rfl (on (qql ?_)))
 exact qjh rfl ⟨rfl, rfl, rfl⟩
theorem f_insSort (L : List Int) (h : asc L) : Fn Try.prog 98 [.own 0 0, .p (.int .i64 (0)), .p (.int .i64 ((L.length : Nat))), .fn 92 []] [.row 3 1 (L.map dI)] (fun rr ii nn => rr = .tup [] ∧ ii = [.row 3 1 (L.map dI)] ∧ nn = []) := by
 refine qjj Try.func98 rfl (nb rfl) fun w X g => ?_
 show AWp _ _ _ ⟨[(0, .own 0 0), (1, .p (.int .i64 (0))), (2, .p (.int .i64 ((L.length : Nat)))), (3, .fn 92 [])], [(0, some (0, .row 3 1 (L.map dI)))]⟩
 have hl12 := asc_len h
 refine rs (om rfl (qqa (qje rfl rfl zr zr) (oa rfl (on (qqh (qqt (ι := Nat) (fun k => 1 ≤ k) (fun k r => (8, .p (.int .i64 ((k : Nat)))) :: r) (fun k r => (0, some (0, .row 3 1 (L.map dI))) :: r) (fun k => L.length - k) (fun _ _ => rfl) (fun _ _ => rfl) 1 (Nat.le_refl _) ⟨⟨rfl, rfl⟩, ⟨rfl, trivial⟩, ⟨rfl, trivial⟩, ⟨rfl, rfl⟩, ⟨rfl, rfl⟩⟩ ?_))))))
 intro k hk
 refine qqd (rs (om rfl (om rfl (qqa (qzk rfl rfl) (on (ac rfl (fun h1 => ?_) fun h1 => ?_))))))
 ·
  have h1r := h1
  try simp only [nq, nr] at h1
  refine qqg (qqd (qqh (rs (om rfl (oa rfl (on (qqh (qqt (ι := Nat) (fun j => j = k) (fun j r => (9, .p (.int .i64 ((k : Nat)))) :: r) (fun j r => (0, some (0, .row 3 1 (L.map dI))) :: r) (fun j => 0) (fun _ _ => rfl) (fun _ _ => rfl) k rfl ⟨⟨rfl, rfl⟩, ⟨rfl, trivial⟩, ⟨rfl, trivial⟩, ⟨rfl, rfl⟩, ⟨rfl, rfl⟩⟩ ?_))))))))
  intro j hj
  refine qqd (qqd (a_draw mixed (by kernel_rfl) (by kernel_rfl) fun vf => ?_))
  refine qqq (qqn (evo rfl)) (qqq (qqn (evo rfl)) (qqq (j_gt rfl rfl) (qqq (qqn (evo rfl)) (d_split' 21 rfl (fun h2 => ?_) (fun h2 => ?_)))))
  ·
   have h2r := h2
   try simp only [nq, nr] at h2
   refine qqq (qqf rfl rfl h2r (qqn (evo rfl))) (qqq (qqf rfl rfl h2r (qqn (evo rfl))) (qqq (qqf rfl rfl h2r (qqn (evo rfl))) (qqq (qqf rfl rfl h2r (qqx (n := k) qjg rfl rfl rfl zr zr)) (qqq (qqf rfl rfl h2r (qjl qq7 rfl rfl (qqj zr) rfl)) (qqq (qqf rfl rfl h2r (qqn (evo rfl))) (qqq (qqf rfl rfl h2r (qqn (evo rfl))) (qqq (qqf rfl rfl h2r (j_sub rfl rfl zr zr)) (qqq (qqf rfl rfl h2r (qqx (n := k - 1) qjg rfl rfl rfl (by omega) zr)) (qqq (qqf rfl rfl h2r (qjl qq7 rfl rfl (qqj zr) rfl)) ?_)))))))))
   refine d_v0' (qqf rfl rfl h2r (j_callF0 (v := .p _) (hp1 := []) [] false [] rfl ent92 (f_clCmp (L.getD k default) (L.getD (k - 1) default) (asc_at h (by omega)) (asc_at h (by omega))) ⟨.inl ⟨rfl, rfl⟩, .inl ⟨rfl, rfl⟩, trivial⟩ trivial rfl rfl (fun h => by cases h) rfl (fun _ h => by cases h) (.inl rfl) rfl rfl)) ?_
   refine qqq (qqf rfl rfl h2r (qzk rfl rfl)) (qqq (qq6 rfl h2r (evo rfl)) (d_nil (by kernel_rfl) (by kernel_rfl) ?_))
   refine ac rfl (fun h3 => ?_) fun h3 => ?_
   ·
    have h3r := h3
    try simp only [nq, nr] at h3
    exact absurd h3r (by have h9 := asc_lt' h (k := k) (by omega) (by omega); simp; omega)
   have h3r := h3
   try simp only [nq, nr] at h3
   refine qjf (ar (om rfl (qqa (qje rfl rfl zr zr) (oa rfl (on ?_)))))
   exact ⟨k + 1, zr, ⟨⟨rfl, rfl⟩, ⟨rfl, trivial⟩, ⟨rfl, trivial⟩, ⟨rfl, rfl⟩, ⟨rfl, rfl⟩⟩, zr⟩
  have h2r := h2
  try simp only [nq, nr] at h2
  refine qqq (qqb rfl rfl h2r) (qqq (qqb rfl rfl h2r) (qqq (qqb rfl rfl h2r) (qqq (qqb rfl rfl h2r) (qqq (qqb rfl rfl h2r) (qqq (qqb rfl rfl h2r) (qqq (qqb rfl rfl h2r) (qqq (qqb rfl rfl h2r) (qqq (qqb rfl rfl h2r) (qqq (qqb rfl rfl h2r) (qqq (qqb rfl rfl h2r) (qqq (qqb rfl rfl h2r) (qqq (qq3 rfl h2r (evo rfl)) (d_nil (by kernel_rfl) (by kernel_rfl) ?_)))))))))))))
  refine a_ff rfl ?_
  refine qjf (ar (om rfl (qqa (qje rfl rfl zr zr) (oa rfl (on ?_)))))
  exact ⟨k + 1, zr, ⟨⟨rfl, rfl⟩, ⟨rfl, trivial⟩, ⟨rfl, trivial⟩, ⟨rfl, rfl⟩, ⟨rfl, rfl⟩⟩, zr⟩
 have h1r := h1
 try simp only [nq, nr] at h1
 refine qjf ?_
 exact ⟨[], .tup [], [.row 3 1 _], [], [], trivial, rfl, rfl, ⟨⟨rfl, rfl⟩, trivial⟩, rfl, rfl, ⟨rfl, rfl, rfl⟩⟩
theorem f_pdq (L : List Int) (h : asc L) (m : Int) : Fn Try.prog 96 [.own 0 0, .p (.int .i64 (0)), .p (.int .i64 ((L.length : Nat))), .p (.int .i64 (m)), .fn 92 []] [.row 3 1 (L.map dI)] (fun rr ii nn => rr = .tup [] ∧ ii = [.row 3 1 (L.map dI)] ∧ nn = []) := by
 refine qjj Try.func96 rfl (nb rfl) fun w X g => ?_
 show AWp _ _ _ ⟨[(0, .own 0 0), (1, .p (.int .i64 (0))), (2, .p (.int .i64 ((L.length : Nat)))), (3, .p (.int .i64 (m))), (4, .fn 92 [])], [(0, some (0, .row 3 1 (L.map dI)))]⟩
 have hl12 := asc_len h
 refine rs (oa rfl (on (rs (oa rfl (on (qqh (qqt (ι := Nat) (fun k => k = 0) (fun k r => r) (fun k r => (0, some (0, .row 3 1 (L.map dI))) :: r) (fun k => 0) (fun _ _ => rfl) (fun _ _ => rfl) 0 rfl ⟨⟨rfl, rfl⟩, trivial, ⟨rfl, trivial⟩, ⟨rfl, rfl⟩, ⟨rfl, rfl⟩⟩ ?_)))))))
 intro k hk
 refine qqh (rs (om rfl (om rfl (qqa (j_sub rfl rfl zr zr) (oa rfl (on (qqd (rs (om rfl (qqa (j_le rfl rfl) (on (ac rfl (fun h1 => ?_) fun h1 => ?_))))))))))))
 ·
  have h1r := h1
  try simp only [nq, nr] at h1
  refine rs (om rfl (om rfl (om rfl (om rfl ?_))))
  refine qq4 (qqp (v := .tup []) (hp1 := [(0, some (0, .row 3 1 _))]) [(0, 0)] false [0] ent98 (f_insSort L h) ⟨.inl ⟨rfl, rfl⟩, .inl ⟨rfl, rfl⟩, .inl ⟨rfl, rfl⟩, .inl ⟨rfl, rfl⟩, trivial⟩ ⟨⟨rfl, rfl⟩, trivial⟩ rfl rfl (fun h => by cases h) rfl (List.all_eq_true.1 rfl) (.inl rfl) rfl rfl) ?_
  refine on (qql ?_)
  exact ⟨[], .tup [], [.row 3 1 _], [], [], trivial, rfl, rfl, ⟨⟨rfl, rfl⟩, trivial⟩, rfl, rfl, ⟨rfl, rfl, rfl⟩⟩
 have h1r := h1
 try simp only [nq, nr] at h1
 exact absurd (of_decide_eq_false h1r) (by omega)
theorem f_sortFunc (L : List Int) (h : asc L) : Fn Try.prog 91 [.own 0 0, .fn 92 []] [.row 3 1 (L.map dI)] (fun rr ii nn => rr = .tup [] ∧ ii = [.row 3 1 (L.map dI)] ∧ nn = []) := by
 refine qjj Try.func91 rfl (nb rfl) fun w X g => ?_
 show AWp _ _ _ ⟨[(0, .own 0 0), (1, .fn 92 [])], [(0, some (0, .row 3 1 (L.map dI)))]⟩
 have hl12 := asc_len h
 have hb9 := f_bitsLen L.length hl12
 rw [← wrapU64 hl12] at hb9
 refine rs (om rfl (qqa (qjc Try.underlying23 rfl rfl) (oa rfl (on (ar (om rfl (om rfl (om rfl (qqa (j_conv Try.underlying3 Try.underlying124 rfl) (op_callE (v := fun x => .p _) (hp1 := fun x => []) [] false ent97 hb9 ⟨.inl ⟨rfl, rfl⟩, trivial⟩ trivial rfl (fun _ => rfl) (fun _ => rfl) (.inl rfl) (fun _ => rfl) (fun _ => rfl) ?_))))))))))
 rintro z11 hz11
 try dsimp only at hz11
 dsimp only [List.cons_append, List.nil_append]
 refine om rfl ?_
 refine qq4 (qqp (v := .tup []) (hp1 := [(0, some (0, .row 3 1 _))]) [(0, 0)] false [0] ent96 (f_pdq L h z11) ⟨.inl ⟨rfl, rfl⟩, .inl ⟨rfl, rfl⟩, .inl ⟨rfl, rfl⟩, .inl ⟨rfl, rfl⟩, .inl ⟨rfl, rfl⟩, trivial⟩ ⟨⟨rfl, rfl⟩, trivial⟩ rfl rfl (fun h => by cases h) rfl (List.all_eq_true.1 rfl) (.inl rfl) rfl rfl) ?_
 refine on ?_
 exact ⟨[], .tup [], [.row 3 1 _], [], [], trivial, rfl, rfl, ⟨⟨rfl, rfl⟩, trivial⟩, rfl, rfl, ⟨rfl, rfl, rfl⟩⟩
theorem f_compact (L : List Int) (h : asc L) : Fn Try.prog 93 [.own 0 0] [.row 3 1 (L.map dI)] (fun rr ii nn => rr = .own 0 0 ∧ ii = [.row 3 1 (L.map dI)] ∧ nn = []) := by
 refine qjj Try.func93 rfl (nb rfl) fun w X g => ?_
 show AWp _ _ _ ⟨[(0, .own 0 0)], [(0, some (0, .row 3 1 (L.map dI)))]⟩
 have hl12 := asc_len h
 refine rs (oa rfl (on (qqd (rs (om rfl (qqa (qjc Try.underlying23 rfl rfl) (qqa (qzk rfl rfl) (on (ac rfl (fun h1 => ?_) fun h1 => ?_)))))))))
 ·
  have h1r := h1
  try simp only [nq, nr] at h1
  refine rs (om rfl (oa rfl (on (qql ?_))))
  exact ⟨[.own 0 0], .own 0 0, [.row 3 1 _], [], [], ⟨rfl, trivial⟩, rfl, rfl, ⟨⟨rfl, rfl⟩, trivial⟩, rfl, rfl, ⟨rfl, rfl, rfl⟩⟩
 have h1r := h1
 try simp only [nq, nr] at h1
 refine qqg (qqd (rs (oa rfl (on (qqh (qqt (ι := Nat) (fun k => 1 ≤ k ∧ k ≤ L.length) (fun k r => (3, .p (.int .i64 ((k : Nat)))) :: r) (fun k r => (0, some (0, .row 3 1 (L.map dI))) :: r) (fun k => L.length - k) (fun _ _ => rfl) (fun _ _ => rfl) 1 ⟨Nat.le_refl _, zr⟩ ⟨⟨rfl, rfl⟩, ⟨rfl, trivial⟩, ⟨rfl, trivial⟩, ⟨rfl, rfl⟩, ⟨rfl, rfl⟩⟩ ?_))))))
 intro k hk
 refine qqd (rs (om rfl (om rfl (qqa (qjc Try.underlying23 rfl rfl) (qqa (qzk rfl rfl) (on (ac rfl (fun h2 => ?_) fun h2 => ?_)))))))
 ·
  have h2r := h2
  try simp only [nq, nr] at h2
  refine qqg (qqd (qqh (qqd (a_draw mixed (by kernel_rfl) (by kernel_rfl) fun vf => ?_))))
  refine qqq (qqn (evo rfl)) (qqq (qqn (evo rfl)) (qqq (qqx (n := k) qjg rfl rfl rfl rfl zr) (qqq (qjl qq7 rfl rfl (qqj zr) rfl) (qqq (qqn (evo rfl)) (qqq (qqn (evo rfl)) (qqq (j_sub rfl rfl zr zr) (qqq (qqx (n := k - 1) qjg rfl rfl rfl (by omega) zr) (qqq (qjl qq7 rfl rfl (qqj zr) rfl) (qqq (j_eq rfl rfl) (d_nil (by kernel_rfl) (by kernel_rfl) ?_))))))))))
  refine ac rfl (fun h3 => ?_) fun h3 => ?_
  ·
   have h3r := h3
   try simp only [nq, nr] at h3
   exact absurd (of_decide_eq_true h3r) (asc_ne h (by omega) (by omega))
  have h3r := h3
  try simp only [nq, nr] at h3
  refine qqg (ar (om rfl (qqa (qje rfl rfl zr zr) (oa rfl (on ?_)))))
  exact ⟨k + 1, ⟨by omega, by first | omega | (simp only [nr]; omega)⟩, ⟨⟨rfl, rfl⟩, ⟨rfl, trivial⟩, ⟨rfl, trivial⟩, ⟨rfl, rfl⟩, ⟨rfl, rfl⟩⟩, zr⟩
 have h2r := h2
 try simp only [nq, nr] at h2
 refine qjf (rs (om rfl (oa rfl (on (qql ?_)))))
 exact ⟨[.own 0 0], .own 0 0, [.row 3 1 _], [], [], ⟨rfl, trivial⟩, rfl, rfl, ⟨⟨rfl, rfl⟩, trivial⟩, rfl, rfl, ⟨rfl, rfl, rfl⟩⟩
end Go.Ab

/- Walks. -/
import Derived.Test.YtoodaakcfelaaaaGreatBase
import Derived.Test.YtoodaakcfelaaaaGreatSimp
import Derived.Test.YtoodaakcfelaaaaGreatWsprob
namespace Go.Ab
open Go.Proofs
set_option maxRecDepth 100000
set_option maxHeartbeats 8000000
set_option linter.unusedSimpArgs false
set_option linter.unusedVariables false
theorem zam0 {p : Prop} (h : p := by first | omega | (simp only [nr, wo_length]; omega)) : p := h
theorem f_valid (c : Con) : Fn Tryz.prog 201 [.agg [.sl (c.1.map dT), .p (.int .i64 c.2)]] [] (fun rr ii nn => rr = .tup [.agg [.sl ((vC c).1.map dT), .p (.int .i64 (vC c).2)], .p (.bool (cOk c))] ∧ ii = [] ∧ nn = []) := by
 refine qjl Tryz.func201 rfl (nb rfl) fun w X g => ?_
 show AWp _ _ _ ⟨[(0, .agg [.sl (c.1.map dT), .p (.int .i64 c.2)])], []⟩
 refine rs (qqv (fun ver => qzg rfl) fun v1x1 => ?_)
 refine qqv (fun ver => qjd qjm rfl) fun v2x2 => ?_
 refine oa rfl (on (qqf (rs (qqa (qqg (ys := [.sl _, .p _]) qq7 rfl rfl rfl (nb rfl)) ?_))))
 refine qq0 (qqn (v := .p _) (hp1 := []) [] false [] ent115 (f_cvImpl _) ⟨.inl ⟨rfl, rfl⟩, trivial⟩ trivial rfl rfl (fun h => by cases h) rfl (fun _ h => by cases h) (.inl rfl) rfl rfl) ?_
 refine qqa (qzk rfl) (on (ac rfl (fun h1 => ?_) fun h1 => ?_))
 ·
  have h1r := h1
  try simp only [nq, nr] at h1
  refine rs (qqa (qjp (parts := []) str69 qjm rfl rfl) (qjg (qqe qq7 rfl rfl rfl rfl rfl rfl) ?_))
  refine oa rfl (on (qjy 0 1002 135 2 (by decide) (id := 2) rfl rfl fun v1002x3 => ?_))
  refine qjk 0 2 (by decide) trivial rfl rfl rfl rfl ?_
  try dsimp only [List.set]
  refine qqx ?_
  exact ⟨[.agg [.sl _, .p _], .p _], .tup [.agg [.sl _, .p _], .p _], [], [], [], ⟨⟨_, _, _, _, rfl, rfl, qq7, rfl⟩, rfl, trivial⟩, rfl, rfl, trivial, rfl, rfl, ⟨by rw [vC_bad h1, h1]; rfl, rfl, rfl⟩⟩
 have h1r := h1
 try simp only [nq, nr] at h1
 refine qqo (rs (qqa (qqg (ys := [.sl _, .p _]) qq7 rfl rfl rfl (nb rfl)) (qjg (qqe qq7 rfl rfl rfl rfl rfl rfl) ?_)))
 refine oa rfl (on (qqx ?_))
 exact ⟨[.agg [.sl _, .p _], .p _], .tup [.agg [.sl _, .p _], .p _], [], [], [], ⟨⟨_, _, _, _, rfl, rfl, qq7, rfl⟩, rfl, trivial⟩, rfl, rfl, trivial, rfl, rfl, ⟨by rw [vC_ok h1, h1], rfl, rfl⟩⟩
theorem f_changed (e : Nat) (kv : Int) (F : Nat) (c : Con) (f : Int → Int) (hc : cOk c = true) (hE : Ent' Tryz.prog F) (hF : ∀ n : Int, 0 ≤ n → n ≤ 20000 → Fn Tryz.prog F [.p (.int .i64 n), .ptr 0 0 0] [.box e [.p (.int .i64 kv)]] (fun r i n0 => r = .p (.int .i64 (f n)) ∧ i = [.box e [.p (.int .i64 kv)]] ∧ n0 = [])) : Fn Tryz.prog 268 [.agg [.sl (c.1.map dT), .p (.int .i64 c.2)], .fn F [.ptr 0 0 0]] [.box e [.p (.int .i64 kv)]] (fun rr ii nn => rr = .tup [.agg [.sl ((vC (chC f c)).1.map dT), .p (.int .i64 (vC (chC f c)).2)], .p (.bool (cOk (chC f c)))] ∧ ii = [.box e [.p (.int .i64 kv)]] ∧ nn = []) := by
 refine qjl Tryz.func268 rfl (nb rfl) fun w X g => ?_
 show AWp _ _ _ ⟨[(0, .agg [.sl (c.1.map dT), .p (.int .i64 c.2)]), (1, .fn F [.ptr 0 0 0])], [(0, some (0, .box e [.p (.int .i64 kv)]))]⟩
 have hln := qz2 hc
 have hbd := qzv hc
 refine rs (qqv (fun ver => qzg rfl) fun v2x1 => ?_)
 refine qqv (fun ver => qjd qjm rfl) fun v4x2 => ?_
 refine oa rfl (on (rs (qqa (qqg (ys := [.sl _, .p _]) qq7 rfl rfl rfl (nb rfl)) ?_)))
 refine qz0 (fun ver => qza (v := .agg [.own 9 ver, .p _]) (hp1 := [(9, some (ver, .row 135 2 _))]) [] false [] ent189 (f_own c (by omega)) ⟨.inl ⟨rfl, rfl⟩, trivial⟩ trivial rfl rfl rfl (fun h => by cases h) rfl (List.all_eq_true.1 rfl) (.inl rfl) rfl rfl) fun v9x3 => ?_
 refine qqv (fun ver => qjd qjm rfl) fun v6x4 => ?_
 refine qjg (qqe qq7 rfl rfl rfl rfl rfl rfl) ?_
 refine on (rs (om rfl (qqa (qqi qzi rfl rfl) (qqa (qqc qq6 rfl rfl rfl) ?_))))
 refine qq0 (j_callF0 (v := .p _) (hp1 := [(0, some (0, .box e [.p _]))]) [(0, 0)] false [0] rfl hE (hF c.2 hbd.1 hbd.2) ⟨.inl ⟨rfl, rfl⟩, .inl ⟨rfl, rfl⟩, trivial⟩ ⟨⟨rfl, rfl⟩, trivial⟩ rfl rfl (fun h => by cases h) rfl (List.all_eq_true.1 rfl) (.inl rfl) rfl rfl) ?_
 refine qqa (qqi qzi rfl rfl) (qjg (qq5 qq6 rfl rfl (nb rfl) (evo rfl) rfl) ?_)
 refine on (qqf (rs (qqa (qqi qjn rfl rfl) (qqa (qqc qjv rfl rfl rfl) (qqa (j_len_own Tryz.underlying67 rfl rfl) (om rfl (on (qqk (qq4 (ι := Nat) (fun k => k ≤ c.1.length) (fun k r => (18, .p (.int .i64 ((k : Nat)))) :: r) (fun k r => (0, some (0, .box e [.p (.int .i64 kv)])) :: (9, some (v9x3, .row 135 2 (wo dT (c.1.map (chT f)) c.1 k))) :: r) (fun k => c.1.length - k) (fun _ _ => rfl) (fun _ _ => rfl) 0 zam0 ⟨⟨rfl, rfl⟩, ⟨rfl, trivial⟩, ⟨rfl, qj0 wo_zero.symm, trivial⟩, ⟨rfl, rfl⟩, ⟨rfl, rfl⟩⟩ ?_)))))))))
 intro k hpre0
 refine rs (qqa (qzt rfl rfl) (on (qqf (ac rfl (fun h1 => ?_) fun h1 => ?_))))
 ·
  have h1r := h1
  try simp only [nq, nr, wo_length] at h1
  refine qqo (qqf (qqk (qqf ?_)))
  have htm := cOk_terms hc (k := k) zam0
  refine ar (om rfl (oa rfl (on (qj3 qzr (by kernel_rfl) (by kernel_rfl) fun vf => ?_))))
  refine qql (qqi qjn rfl rfl) (qql (qqc qjv rfl rfl rfl) (qql (qqj (evo rfl)) (qql (qqj (evo rfl)) (qql (qqi qjn rfl rfl) (qql (qqc qjv rfl rfl rfl) (qql (qqj (evo rfl)) (qql (qq2 qzc rfl rfl rfl rfl zam0) (qql (j_fldpel qzp rfl rfl) (qql (qjo qq6 rfl rfl (wo_at zam0 zam0) rfl) ?_)))))))))
  refine d_v0' (j_callF0 (v := .p _) (hp1 := [(0, some (0, .box e [.p _]))]) [(0, 0)] false [0] rfl hE (hF (c.1.getD k default).1 (by omega) (by omega)) ⟨.inl ⟨rfl, rfl⟩, .inl ⟨rfl, rfl⟩, trivial⟩ ⟨⟨rfl, rfl⟩, trivial⟩ rfl rfl (fun h => by cases h) rfl (List.all_eq_true.1 rfl) (.inl rfl) rfl rfl) ?_
  refine qql (qq2 qzc rfl rfl rfl rfl zam0) (qql (j_fldpel qzp rfl rfl) (d_s' (j_storef_row qq6 rfl rfl (wo_at zam0 zam0) (nb rfl) (evo rfl) rfl rfl) ?_))
  refine qzf (by kernel_rfl) (by kernel_rfl) ?_
  refine ar (qqa (qjh rfl rfl zam0 zam0) (om rfl (on ?_)))
  exact ⟨k + 1, zam0, ⟨⟨rfl, rfl⟩, ⟨rfl, trivial⟩, ⟨rfl, qj0 (wo_set (d := default) (x := chT f (c.1.getD k default)) zam0 zam0 (mapD_at zam0)), trivial⟩, ⟨rfl, rfl⟩, ⟨rfl, rfl⟩⟩, zam0⟩
 have h1r := h1
 try simp only [nq, nr, wo_length] at h1
 refine qjf (qqf (a_row 9 (es' := (chC f c).1.map dT) rfl (wo_all (by rw [List.length_map]; omega) (by omega)) ?_))
 refine qjk 0 6 (by decide) ⟨⟨_, _, rfl⟩, trivial⟩ rfl rfl rfl rfl ?_
 try dsimp only [List.set]
 refine ar (qqa (qqg (ys := [.sl _, .p _]) qq7 rfl rfl rfl (nb rfl)) ?_)
 refine qq0 (qqn (v := .tup [.agg [.sl _, .p _], .p _]) (hp1 := []) [] false [] ent201 (f_valid (chC f c)) ⟨.inl ⟨rfl, rfl⟩, trivial⟩ trivial rfl rfl (fun h => by cases h) rfl (fun _ h => by cases h) (.inl rfl) rfl rfl) ?_
 refine qqa (qqt rfl rfl) (qqa (qqt rfl rfl) (qjg (qqe qq7 rfl rfl rfl rfl rfl rfl) ?_))
 refine oa rfl (on (qqx ?_))
 exact ⟨[.agg [.sl _, .p _], .p _], .tup [.agg [.sl _, .p _], .p _], [.box e [.p _]], [], [], ⟨⟨_, _, _, _, rfl, rfl, qq7, rfl⟩, rfl, trivial⟩, rfl, rfl, ⟨⟨rfl, rfl⟩, trivial⟩, rfl, rfl, ⟨rfl, rfl, rfl⟩⟩
theorem f_multiply1 (n k : Int) (hn : 0 ≤ n ∧ n ≤ 20000) (hk : 1 ≤ k ∧ k ≤ 1000) : Fn Tryz.prog 269 [.p (.int .i64 (n)), .ptr 0 0 0] [.box 3 [.p (.int .i64 k)]] (fun rr ii nn => rr = .p (.int .i64 (mulK k n)) ∧ ii = [.box 3 [.p (.int .i64 k)]] ∧ nn = []) := by
 refine qjl Tryz.func269 rfl (nb rfl) fun w X g => ?_
 show AWp _ _ _ ⟨[(0, .p (.int .i64 (n))), (1, .ptr 0 0 0)], [(0, some (0, .box 3 [.p (.int .i64 k)]))]⟩
 have hmm := mul_rng hn hk
 refine rs (oa rfl (on (rs (om rfl (qqa (qqc qq6 rfl rfl rfl) (qqa (j_mul rfl rfl (by omega) (by omega)) (oa rfl (on (qqx ?_)))))))))
 exact ⟨[.p _], .p _, [.box 3 [.p _]], [], [], ⟨rfl, trivial⟩, rfl, rfl, ⟨⟨rfl, rfl⟩, trivial⟩, rfl, rfl, ⟨rfl, rfl, rfl⟩⟩
theorem f_multiply (c : Con) (k : Int) : Fn Tryz.prog 236 [.agg [.sl (c.1.map dT), .p (.int .i64 c.2)], .p (.int .i64 (k))] [] (fun rr ii nn => rr = .tup [.agg [.sl ((chR (mulK k) c k).1.map dT), .p (.int .i64 (chR (mulK k) c k).2)], .p (.bool (chB (mulK k) c k))] ∧ ii = [] ∧ nn = []) := by
 refine qjl Tryz.func236 rfl (nb rfl) fun w X g => ?_
 show AWp _ _ _ ⟨[(0, .agg [.sl (c.1.map dT), .p (.int .i64 c.2)]), (1, .p (.int .i64 (k)))], []⟩
 refine rs (qqv (fun ver => qzg rfl) fun v2x1 => ?_)
 refine qqv (fun ver => j_box (evo rfl) rfl) fun v3x2 => ?_
 refine qqv (fun ver => qjd qjm rfl) fun v4x3 => ?_
 refine oa rfl (on (qqf (rs (qqa (qqg (ys := [.sl _, .p _]) qq7 rfl rfl rfl (nb rfl)) ?_))))
 refine qq0 (qqn (v := .p _) (hp1 := []) [] false [] ent115 (f_cvImpl _) ⟨.inl ⟨rfl, rfl⟩, trivial⟩ trivial rfl rfl (fun h => by cases h) rfl (fun _ h => by cases h) (.inl rfl) rfl rfl) ?_
 refine qqa (qzk rfl) (om rfl (qqz 9 rfl (fun h1 => ?_) (fun h1 => ?_)))
 ·
  have h1r := h1
  try simp only [nq, nr] at h1
  refine qqa (qqb rfl rfl h1r) (qqa (qqb rfl rfl h1r) (qqa (qqb rfl rfl h1r) (qqa (qqr rfl h1r (evo rfl)) (on (a_tt rfl ?_)))))
  refine rs (qqa (qjp (parts := []) str69 qjm rfl rfl) (qjg (qqe qq7 rfl rfl rfl rfl rfl rfl) ?_))
  refine oa rfl (on (qjy 0 1004 135 2 (by decide) (id := 4) rfl rfl fun v1004x4 => ?_))
  refine qjk 0 4 (by decide) trivial rfl rfl rfl rfl ?_
  try dsimp only [List.set]
  refine qqx ?_
  exact ⟨[.agg [.sl _, .p _], .p _], .tup [.agg [.sl _, .p _], .p _], [], [], [], ⟨⟨_, _, _, _, rfl, rfl, qq7, rfl⟩, rfl, trivial⟩, rfl, rfl, trivial, rfl, rfl, ⟨by have hq : kOk c k = false := kOk_no (by first | exact .inl h1 | exact .inr (by omega)); unfold chR chB; rw [hq]; rfl, rfl, rfl⟩⟩
 have h1r := h1
 try simp only [nq, nr] at h1
 refine qqa (qqd rfl rfl h1r (qqc qq6 rfl rfl rfl)) ?_
 refine qq0 (qqd rfl rfl h1r (qqn (v := .p _) (hp1 := []) [] false [] ent113 (f_within _ _ _) ⟨.inl ⟨rfl, rfl⟩, .inl ⟨rfl, rfl⟩, .inl ⟨rfl, rfl⟩, trivial⟩ trivial rfl rfl (fun h => by cases h) rfl (fun _ h => by cases h) (.inl rfl) rfl rfl)) ?_
 refine qqa (qqd rfl rfl h1r (qzk rfl)) (qqa (qqy rfl h1r (evo rfl)) (on (ac rfl (fun h2 => ?_) fun h2 => ?_)))
 ·
  have h2r := h2
  try simp only [nq, nr] at h2
  refine rs (qqa (qjp (parts := []) str69 qjm rfl rfl) (qjg (qqe qq7 rfl rfl rfl rfl rfl rfl) ?_))
  refine oa rfl (on (qjy 0 1004 135 2 (by decide) (id := 4) rfl rfl fun v1004x5 => ?_))
  refine qjk 0 4 (by decide) trivial rfl rfl rfl rfl ?_
  try dsimp only [List.set]
  refine qqx ?_
  exact ⟨[.agg [.sl _, .p _], .p _], .tup [.agg [.sl _, .p _], .p _], [], [], [], ⟨⟨_, _, _, _, rfl, rfl, qq7, rfl⟩, rfl, trivial⟩, rfl, rfl, trivial, rfl, rfl, ⟨by have hq : kOk c k = false := kOk_no (by first | exact .inl h1 | exact .inr (by omega)); unfold chR chB; rw [hq]; rfl, rfl, rfl⟩⟩
 have h2r := h2
 try simp only [nq, nr] at h2
 refine qqo (qqf ?_)
 have hk : 1 ≤ k ∧ k ≤ 1000 := by omega
 refine ar (qqa (qqg (ys := [.sl _, .p _]) qq7 rfl rfl rfl (nb rfl)) (qqa (j_makeFunc (f := 269) (xs := [.tmp 3]) (caps := [.ptr 3 v3x2 0]) rfl) ?_))
 refine qq0 (qqn (v := .tup [.agg [.sl _, .p _], .p _]) (hp1 := [(3, some (v3x2, .box 3 [.p _]))]) [(3, v3x2)] false [3] ent268 (f_changed 3 k 269 c (mulK k) h1 ent269 (fun n h2 h3 => f_multiply1 n k ⟨h2, h3⟩ hk)) ⟨.inl ⟨rfl, rfl⟩, .inl ⟨rfl, rfl⟩, trivial⟩ ⟨⟨rfl, rfl⟩, trivial⟩ rfl rfl (fun h => by cases h) rfl (List.all_eq_true.1 rfl) (.inl rfl) rfl rfl) ?_
 refine qqa (qqt rfl rfl) (qqa (qqt rfl rfl) (qjg (qqe qq7 rfl rfl rfl rfl rfl rfl) ?_))
 refine oa rfl (on (qqx ?_))
 exact ⟨[.agg [.sl _, .p _], .p _], .tup [.agg [.sl _, .p _], .p _], [], [], [], ⟨⟨_, _, _, _, rfl, rfl, qq7, rfl⟩, rfl, trivial⟩, rfl, rfl, trivial, rfl, rfl, ⟨by unfold chR chB; rw [kOk_of h1 hk]; rfl, rfl, rfl⟩⟩
theorem f_divide1 (n k : Int) (hn : 0 ≤ n ∧ n ≤ 20000) (hk : 1 ≤ k ∧ k ≤ 1000) : Fn Tryz.prog 270 [.p (.int .i64 (n)), .ptr 0 0 0] [.box 3 [.p (.int .i64 k)]] (fun rr ii nn => rr = .p (.int .i64 (divK k n)) ∧ ii = [.box 3 [.p (.int .i64 k)]] ∧ nn = []) := by
 refine qjl Tryz.func270 rfl (nb rfl) fun w X g => ?_
 show AWp _ _ _ ⟨[(0, .p (.int .i64 (n))), (1, .ptr 0 0 0)], [(0, some (0, .box 3 [.p (.int .i64 k)]))]⟩
 have hmm := mul_rng hn hk
 refine rs (oa rfl (on (rs (om rfl (qqa (qqc qq6 rfl rfl rfl) (qqa (qjh rfl rfl (by omega) (by omega)) (qqa (qzw rfl rfl (by omega) (by omega)) (qqa (qqc qq6 rfl rfl rfl) (qqa (j_quo rfl rfl (by omega) (by omega) (by omega)) (oa rfl (on (qqx ?_))))))))))))
 exact ⟨[.p _], .p _, [.box 3 [.p _]], [], [], ⟨rfl, trivial⟩, rfl, rfl, ⟨⟨rfl, rfl⟩, trivial⟩, rfl, rfl, ⟨rfl, rfl, rfl⟩⟩
theorem f_divide (c : Con) (k : Int) : Fn Tryz.prog 237 [.agg [.sl (c.1.map dT), .p (.int .i64 c.2)], .p (.int .i64 (k))] [] (fun rr ii nn => rr = .tup [.agg [.sl ((chR (divK k) c k).1.map dT), .p (.int .i64 (chR (divK k) c k).2)], .p (.bool (chB (divK k) c k))] ∧ ii = [] ∧ nn = []) := by
 refine qjl Tryz.func237 rfl (nb rfl) fun w X g => ?_
 show AWp _ _ _ ⟨[(0, .agg [.sl (c.1.map dT), .p (.int .i64 c.2)]), (1, .p (.int .i64 (k)))], []⟩
 refine rs (qqv (fun ver => qzg rfl) fun v2x1 => ?_)
 refine qqv (fun ver => j_box (evo rfl) rfl) fun v3x2 => ?_
 refine qqv (fun ver => qjd qjm rfl) fun v4x3 => ?_
 refine oa rfl (on (qqf (rs (qqa (qqg (ys := [.sl _, .p _]) qq7 rfl rfl rfl (nb rfl)) ?_))))
 refine qq0 (qqn (v := .p _) (hp1 := []) [] false [] ent115 (f_cvImpl _) ⟨.inl ⟨rfl, rfl⟩, trivial⟩ trivial rfl rfl (fun h => by cases h) rfl (fun _ h => by cases h) (.inl rfl) rfl rfl) ?_
 refine qqa (qzk rfl) (om rfl (qqz 9 rfl (fun h1 => ?_) (fun h1 => ?_)))
 ·
  have h1r := h1
  try simp only [nq, nr] at h1
  refine qqa (qqb rfl rfl h1r) (qqa (qqb rfl rfl h1r) (qqa (qqb rfl rfl h1r) (qqa (qqr rfl h1r (evo rfl)) (on (a_tt rfl ?_)))))
  refine rs (qqa (qjp (parts := []) str69 qjm rfl rfl) (qjg (qqe qq7 rfl rfl rfl rfl rfl rfl) ?_))
  refine oa rfl (on (qjy 0 1004 135 2 (by decide) (id := 4) rfl rfl fun v1004x4 => ?_))
  refine qjk 0 4 (by decide) trivial rfl rfl rfl rfl ?_
  try dsimp only [List.set]
  refine qqx ?_
  exact ⟨[.agg [.sl _, .p _], .p _], .tup [.agg [.sl _, .p _], .p _], [], [], [], ⟨⟨_, _, _, _, rfl, rfl, qq7, rfl⟩, rfl, trivial⟩, rfl, rfl, trivial, rfl, rfl, ⟨by have hq : kOk c k = false := kOk_no (by first | exact .inl h1 | exact .inr (by omega)); unfold chR chB; rw [hq]; rfl, rfl, rfl⟩⟩
 have h1r := h1
 try simp only [nq, nr] at h1
 refine qqa (qqd rfl rfl h1r (qqc qq6 rfl rfl rfl)) ?_
 refine qq0 (qqd rfl rfl h1r (qqn (v := .p _) (hp1 := []) [] false [] ent113 (f_within _ _ _) ⟨.inl ⟨rfl, rfl⟩, .inl ⟨rfl, rfl⟩, .inl ⟨rfl, rfl⟩, trivial⟩ trivial rfl rfl (fun h => by cases h) rfl (fun _ h => by cases h) (.inl rfl) rfl rfl)) ?_
 refine qqa (qqd rfl rfl h1r (qzk rfl)) (qqa (qqy rfl h1r (evo rfl)) (on (ac rfl (fun h2 => ?_) fun h2 => ?_)))
 ·
  have h2r := h2
  try simp only [nq, nr] at h2
  refine rs (qqa (qjp (parts := []) str69 qjm rfl rfl) (qjg (qqe qq7 rfl rfl rfl rfl rfl rfl) ?_))
  refine oa rfl (on (qjy 0 1004 135 2 (by decide) (id := 4) rfl rfl fun v1004x5 => ?_))
  refine qjk 0 4 (by decide) trivial rfl rfl rfl rfl ?_
  try dsimp only [List.set]
  refine qqx ?_
  exact ⟨[.agg [.sl _, .p _], .p _], .tup [.agg [.sl _, .p _], .p _], [], [], [], ⟨⟨_, _, _, _, rfl, rfl, qq7, rfl⟩, rfl, trivial⟩, rfl, rfl, trivial, rfl, rfl, ⟨by have hq : kOk c k = false := kOk_no (by first | exact .inl h1 | exact .inr (by omega)); unfold chR chB; rw [hq]; rfl, rfl, rfl⟩⟩
 have h2r := h2
 try simp only [nq, nr] at h2
 refine qqo (qqf ?_)
 have hk : 1 ≤ k ∧ k ≤ 1000 := by omega
 refine ar (qqa (qqg (ys := [.sl _, .p _]) qq7 rfl rfl rfl (nb rfl)) (qqa (j_makeFunc (f := 270) (xs := [.tmp 3]) (caps := [.ptr 3 v3x2 0]) rfl) ?_))
 refine qq0 (qqn (v := .tup [.agg [.sl _, .p _], .p _]) (hp1 := [(3, some (v3x2, .box 3 [.p _]))]) [(3, v3x2)] false [3] ent268 (f_changed 3 k 270 c (divK k) h1 ent270 (fun n h2 h3 => f_divide1 n k ⟨h2, h3⟩ hk)) ⟨.inl ⟨rfl, rfl⟩, .inl ⟨rfl, rfl⟩, trivial⟩ ⟨⟨rfl, rfl⟩, trivial⟩ rfl rfl (fun h => by cases h) rfl (List.all_eq_true.1 rfl) (.inl rfl) rfl rfl) ?_
 refine qqa (qqt rfl rfl) (qqa (qqt rfl rfl) (qjg (qqe qq7 rfl rfl rfl rfl rfl rfl) ?_))
 refine oa rfl (on (qqx ?_))
 exact ⟨[.agg [.sl _, .p _], .p _], .tup [.agg [.sl _, .p _], .p _], [], [], [], ⟨⟨_, _, _, _, rfl, rfl, qq7, rfl⟩, rfl, trivial⟩, rfl, rfl, trivial, rfl, rfl, ⟨by unfold chR chB; rw [kOk_of h1 hk]; rfl, rfl, rfl⟩⟩
end Go.Ab

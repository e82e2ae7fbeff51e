/- Walks. -/
import Derived.Test.YtoodaakcfelaaaaGreatBase
import Derived.Test.YtoodaakcfelaaaaGreatSimp
import Derived.Test.YtoodaakcfelaaaaGreatWscons
namespace Go.Ab
open Go.Proofs
set_option maxRecDepth 100000
set_option maxHeartbeats 8000000
set_option linter.unusedSimpArgs false
set_option linter.unusedVariables false
theorem zac0 {p : Prop} (h : p := by first | omega | (simp only [nr, pa_length, List.length_replicate]; omega)) : p := h
theorem f_numbered (n : Nat) (hn : n < 4096) : Fn Tryz.prog 71 [.p (.int .i64 ((n : Nat)))] [] (fun rr ii nn => rr = .own 0 0 ∧ ii = [] ∧ nn = [.row 4 1 ((assn n).map dB)]) := by
 refine qjl Tryz.func71 rfl (nb rfl) fun w X g => ?_
 show AWp _ _ _ ⟨[(0, .p (.int .i64 ((n : Nat))))], []⟩
 refine rs (oa rfl (on (rs (qqv (fun ver => j_make (n := 12) qzm elt4 rfl rfl (by decide) rfl rfl rfl rfl zac0 (by rw [qqu]; first | omega | (simp only [nr, pa_length, List.length_replicate]; omega))) fun v5x1 => ?_))))
 refine oa rfl (on (qqf (rs (om rfl (qqa (j_len_own Tryz.underlying44 rfl rfl) (om rfl (on (qqk (qq4 (ι := Nat) (fun k => k ≤ 12) (fun k r => (8, .p (.int .i64 ((k : Nat)))) :: r) (fun k r => (5, some (v5x1, .row 4 1 ((pa n k).map dB))) :: r) (fun k => 12 - k) (fun _ _ => rfl) (fun _ _ => rfl) 0 zac0 ⟨⟨rfl, rfl⟩, ⟨rfl, trivial⟩, ⟨qj0 pa_zero.symm, trivial⟩, ⟨rfl, rfl⟩, ⟨rfl, rfl⟩⟩ ?_)))))))))
 intro k hpre0
 refine rs (qqa (qzt rfl rfl) (on (qqf (ac rfl (fun h1 => ?_) fun h1 => ?_))))
 ·
  have h1r := h1
  try simp only [nq, nr, pa_length, List.length_replicate] at h1
  refine qqo (qqf (qqk (rs (om rfl (oa rfl (on (ar (om rfl (om rfl (om rfl (om rfl (qqa (qzw rfl rfl zac0 zac0) (qqa (j_bits rfl rfl (fun w => run_shr (b := 11 - k) (by omega) (by omega) w)) (qqa (j_bits rfl rfl (fun w => run_and1 (Nat.lt_of_le_of_lt (Nat.div_le_self _ _) (by omega)) w)) ?_))))))))))))))
  refine qqa (qz5 rfl rfl) (qqa (qq2 qzm rfl rfl rfl rfl zac0) (qjg (qzj leaf4 rfl rfl zac0 (evo rfl) rfl rfl) ?_))
  refine on (ar (qqa (qjh rfl rfl zac0 zac0) (om rfl (on ?_))))
  exact ⟨k + 1, zac0, ⟨⟨rfl, rfl⟩, ⟨rfl, trivial⟩, ⟨qj0 (pa_next zac0 bit_and), trivial⟩, ⟨rfl, rfl⟩, ⟨rfl, rfl⟩⟩, zac0⟩
 have h1r := h1
 try simp only [nq, nr, pa_length, List.length_replicate] at h1
 refine qjf (rs (om rfl (oa rfl (on (qqx ?_)))))
 exact ⟨[.own 5 v5x1], .own 0 0, [], [.row 4 1 _], [(5, v5x1)], ⟨rfl, trivial⟩, rfl, rfl, ⟨⟨rfl, rfl⟩, trivial⟩, rfl, rfl, ⟨rfl, rfl, congrArg (fun x => [Obj.row _ _ (x.map dB)]) (pa_all zac0)⟩⟩
theorem f_holds1 (l : Int) (bs : List Bool) (hl : litOk l = true) (hb : bs.length = 12) : Fn Tryz.prog 179 [.p (.int .i64 (l)), .sl (bs.map dB)] [] (fun rr ii nn => rr = .p (.bool (litV bs l)) ∧ ii = [] ∧ nn = []) := by
 refine qjl Tryz.func179 rfl (nb rfl) fun w X g => ?_
 show AWp _ _ _ ⟨[(0, .p (.int .i64 (l))), (1, .sl (bs.map dB))], []⟩
 have hl2 := litOk_iff.1 hl
 have hv2 : 1 ≤ varOf l ∧ varOf l ≤ 12 := by unfold varOf; omega
 refine rs (oa rfl (on (rs (om rfl (om rfl ?_)))))
 refine qq0 (qqn (v := .p _) (hp1 := []) [] false [] ent111 (f_varOf _ (by omega)) ⟨.inl ⟨rfl, rfl⟩, trivial⟩ trivial rfl rfl (fun h => by cases h) rfl (fun _ h => by cases h) (.inl rfl) rfl rfl) ?_
 refine qqa (qzw rfl rfl (by omega) (by omega)) (qqa (qq9 (n := (varOf l - 1).toNat) qzm rfl rfl (by omega) (qqq (by omega)) rfl) (qqa (qq8 leaf4 rfl (qqq (by omega)) rfl) (om rfl (qqa (j_gt rfl rfl) (qqa (j_eqb Tryz.underlying4 rfl rfl) (oa rfl (on (qqx ?_))))))))
 exact qjt rfl ⟨rfl, rfl, rfl⟩
theorem f_holdsC (c : Con) (bs : List Bool) (hc : cOk c = true) (hb : bs.length = 12) : Fn Tryz.prog 126 [.agg [.sl (c.1.map dT), .p (.int .i64 c.2)], .sl (bs.map dB)] [] (fun rr ii nn => rr = .p (.bool (holdsV c bs)) ∧ ii = [] ∧ nn = []) := by
 refine qjl Tryz.func126 rfl (nb rfl) fun w X g => ?_
 show AWp _ _ _ ⟨[(0, .agg [.sl (c.1.map dT), .p (.int .i64 c.2)]), (1, .sl (bs.map dB))], []⟩
 refine a_len_map2 0 rfl fun hlen => ?_
 have hln := qz2 hc
 refine rs (qqv (fun ver => qzg rfl) fun v2x1 => ?_)
 refine oa rfl (on (rs (oa rfl (on (qqf (rs (qqa (qqi qjn rfl rfl) (qqa (qqc qjv rfl rfl rfl) (qqa (qqw Tryz.underlying67 rfl) (om rfl (on (qqk (qq4 (ι := Nat) (fun k => k ≤ c.1.length) (fun k r => (11, .p (.int .i64 ((k : Nat)))) :: (5, .p (.int .i64 (sumV (c.1.take k) bs))) :: r) (fun k r => r) (fun k => c.1.length - k) (fun _ _ => rfl) (fun _ _ => rfl) 0 (by omega) ⟨⟨rfl, rfl⟩, ⟨rfl, rfl, trivial⟩, trivial, ⟨rfl, rfl⟩, ⟨rfl, rfl⟩⟩ ?_)))))))))))))
 intro k hpre0
 refine rs (qqa (qzt rfl rfl) (on (qqf (ac rfl (fun h1 => ?_) fun h1 => ?_))))
 ·
  have h1r := h1
  try simp only [nq, nr] at h1
  have hsm := sum_take hc (k := k) (bs := bs) (by omega); have htm := cOk_terms hc (k := k) (by omega); have hln := qz2 hc
  refine qqo (qqf (qqk (rs (qqa (qq9 qzc rfl rfl rfl (qqq (by omega)) rfl) (qqa (qjw (ys := [.p _, .p _]) qz7 rfl (qqq (by omega)) rfl (Nat.le_refl _)) (qqv (fun ver => qjd qjx rfl) fun v7x2 => ?_))))))
  refine qjg (qqe qz7 rfl rfl rfl rfl rfl rfl) ?_
  refine on (rs (qqa (qqi qzl rfl rfl) (qqa (qqc qq6 rfl rfl rfl) (om rfl ?_))))
  refine qq0 (qqn (v := .p _) (hp1 := []) [] false [] ent179 (f_holds1 _ _ htm.1 hb) ⟨.inl ⟨rfl, rfl⟩, .inl ⟨rfl, rfl⟩, trivial⟩ trivial rfl rfl (fun h => by cases h) rfl (fun _ h => by cases h) (.inl rfl) rfl rfl) ?_
  refine on (ac rfl (fun h2 => ?_) fun h2 => ?_)
  ·
   have h2r := h2
   try simp only [nq, nr] at h2
   refine ar (om rfl (qqa (qqi qzp rfl rfl) (qqa (qqc qq6 rfl rfl rfl) (qqa (qjh rfl rfl (by omega) (by omega)) (oa rfl (on (ar (qqa (qjh rfl rfl (by omega) (by omega)) (om rfl (on ?_))))))))))
   exact ⟨k + 1, (by omega), ⟨⟨rfl, rfl⟩, ⟨rfl, qz1 (by rw [sumV_next (by omega)]; unfold term; rw [if_pos h2r]), trivial⟩, trivial, ⟨rfl, rfl⟩, ⟨rfl, rfl⟩⟩, (by omega)⟩
  have h2r := h2
  try simp only [nq, nr] at h2
  refine qqo (ar (qqa (qjh rfl rfl (by omega) (by omega)) (om rfl (on ?_))))
  exact ⟨k + 1, (by omega), ⟨⟨rfl, rfl⟩, ⟨rfl, qz1 (by rw [sumV_next (by omega)]; unfold term; rw [if_neg (by rw [h2r]; decide), Int.add_zero]), trivial⟩, trivial, ⟨rfl, rfl⟩, ⟨rfl, rfl⟩⟩, (by omega)⟩
 have h1r := h1
 try simp only [nq, nr] at h1
 refine qjf (rs (om rfl (qqa (qqi qzi rfl rfl) (qqa (qqc qq6 rfl rfl rfl) (qqa (j_ge rfl rfl) (oa rfl (on (qqx ?_))))))))
 exact qjt rfl ⟨qje (by unfold holdsV; rw [List.take_of_length_le (by omega)]), rfl, rfl⟩
theorem f_l1TotalG (c : Con) (hc : ∀ t ∈ c.1, -1000000 ≤ t.1 ∧ t.1 ≤ 1000000) (hln : c.1.length ≤ 1048576) : Fn Tryz.prog 132 [.agg [.sl (c.1.map dT), .p (.int .i64 c.2)]] [] (fun rr ii nn => rr = .p (.int .i64 (totV c.1)) ∧ ii = [] ∧ nn = []) := by
 refine qjl Tryz.func132 rfl (nb rfl) fun w X g => ?_
 show AWp _ _ _ ⟨[(0, .agg [.sl (c.1.map dT), .p (.int .i64 c.2)])], []⟩
 refine a_len_map2 0 rfl fun hlen => ?_
 refine rs (qqv (fun ver => qzg rfl) fun v1x1 => ?_)
 refine oa rfl (on (rs (oa rfl (on (qqf (rs (oa rfl (on (qqk (qq4 (ι := Nat) (fun k => k ≤ c.1.length) (fun k r => (4, .p (.int .i64 ((k : Nat)))) :: (3, .p (.int .i64 (totV (c.1.take k)))) :: r) (fun k r => r) (fun k => c.1.length - k) (fun _ _ => rfl) (fun _ _ => rfl) 0 (by omega) ⟨⟨rfl, rfl⟩, ⟨rfl, rfl, trivial⟩, trivial, ⟨rfl, rfl⟩, ⟨rfl, rfl⟩⟩ ?_))))))))))
 intro k hpre0
 refine qqf (rs (om rfl (qqa (qqi qjn rfl rfl) (qqa (qqc qjv rfl rfl rfl) (qqa (qqw Tryz.underlying67 rfl) (qqa (qzt rfl rfl) (on (ac rfl (fun h1 => ?_) fun h1 => ?_))))))))
 ·
  have h1r := h1
  try simp only [nq, nr] at h1
  have hsm := tot_takeG (ts := c.1) (k := k) hc (by omega); have htm := hc _ (qju (d := default) (l := c.1) (k := k) (by omega))
  refine qqo (qqf (qqk (ar (om rfl (qqa (qqi qjn rfl rfl) (qqa (qqc qjv rfl rfl rfl) (om rfl (qqa (qq9 qzc rfl rfl rfl (qqq (by omega)) rfl) (qqa (j_fldel qzp rfl) (qqa (qq8 qq6 rfl (qqq (by omega)) rfl) (qqa (qjh rfl rfl (by omega) (by omega)) (oa rfl (on ?_)))))))))))))
  refine ar (om rfl (qqa (qjh rfl rfl (by omega) (by omega)) (oa rfl (on ?_))))
  exact ⟨k + 1, (by omega), ⟨⟨rfl, rfl⟩, ⟨rfl, qz1 (by rw [totV_next (by omega)]), trivial⟩, trivial, ⟨rfl, rfl⟩, ⟨rfl, rfl⟩⟩, (by omega)⟩
 have h1r := h1
 try simp only [nq, nr] at h1
 refine qjf (rs (om rfl (oa rfl (on (qqx ?_)))))
 exact qjt rfl ⟨qz1 (by rw [List.take_of_length_le (by omega)]), rfl, rfl⟩
end Go.Ab

/- Walks. -/
import Derived.Test.YtoodaakcfelaaaaGreatBase
import Derived.Test.YtoodaakcfelaaaaGreatSimp
import Derived.Test.YtoodaakcfelaaaaGreatWstight
import Derived.Test.YtoodaakcfelaaaaGreatVals
namespace Go.Ab
open Go.Proofs
set_option maxRecDepth 100000
set_option maxHeartbeats 8000000
set_option linter.unusedSimpArgs false
set_option linter.unusedVariables false
theorem f_pick (b : List Int) (p : Nat) (n : Int) (hb : okB b) (hp : p ≤ 1099511627776) : Fn Tryz.prog 67 [.ptr 0 0 0, .p (.int .i64 (n))] [.box 151 [.sl (b.map dU), .p (.int .i64 ((p : Nat) : Int))]] (fun rr ii nn => rr = .p (.int .i64 (pickV b p n)) ∧ ii = [.box 151 [.sl (b.map dU), .p (.int .i64 ((p + 1 : Nat) : Int))]] ∧ nn = []) := by
 refine qjm Tryz.func67 rfl (nb rfl) fun w X g => ?_
 show AWp _ _ _ ⟨[(0, .ptr 0 0 0), (1, .p (.int .i64 (n)))], [(0, some (0, .box 151 [.sl (b.map dU), .p (.int .i64 ((p : Nat) : Int))]))]⟩
 have hbl := hb.1
 refine rs (oa rfl (on (rs (om rfl (om rfl (qqa (qjk rfl rfl) (qqa (qqi fld151f1 rfl rfl) (qqa (qqc qq2 rfl rfl rfl) (qqa (qjh rfl rfl zr zr) (qqa (qjk rfl rfl) (qqa (qqi fld151f1 rfl rfl) (qjo (qje qq2 rfl rfl (nb rfl) (evo rfl) rfl) ?_))))))))))))
 refine on (qqe (rs (om rfl (qqa (qzb rfl rfl) (om rfl (qqx 17 rfl (fun h1 => ?_) (fun h1 => ?_)))))))
 ·
  have h1r := h1
  try simp only [nq, nr] at h1
  refine qqa (qqb rfl rfl h1r) (qqa (qqb rfl rfl h1r) (qqa (qqb rfl rfl h1r) (qqa (qqb rfl rfl h1r) (qqa (qqb rfl rfl h1r) (qqa (qqb rfl rfl h1r) (qqa (qqu rfl h1r (evo rfl)) (on (a_tt rfl ?_))))))))
  refine rs (oa rfl (on (qqm ?_)))
  exact ⟨[.p _], .p _, [.box 151 [.sl _, .p _]], [], [], ⟨rfl, trivial⟩, rfl, rfl, ⟨⟨rfl, rfl⟩, trivial⟩, rfl, rfl, ⟨qzg (by unfold pickV; rw [if_pos (by omega)]), rfl, rfl⟩⟩
 have h1r := h1
 try simp only [nq, nr] at h1
 refine qqa (qqd rfl rfl h1r (qql (evo rfl))) (qqa (qqd rfl rfl h1r (qjk rfl rfl)) (qqa (qqd rfl rfl h1r (qqi fld151f0 rfl rfl)) (qqa (qqd rfl rfl h1r (qqc leaf41 rfl rfl rfl)) (qqa (qqd rfl rfl h1r (qqg Tryz.underlying41 rfl)) (qqa (qqd rfl rfl h1r (qz4 rfl rfl)) (qqa (qqt rfl h1r (evo rfl)) (on (ac rfl (fun h2 => ?_) fun h2 => ?_))))))))
 ·
  have h2r := h2
  try simp only [nq, nr] at h2
  refine rs (oa rfl (on (qqm ?_)))
  exact ⟨[.p _], .p _, [.box 151 [.sl _, .p _]], [], [], ⟨rfl, trivial⟩, rfl, rfl, ⟨⟨rfl, rfl⟩, trivial⟩, rfl, rfl, ⟨qzg (by unfold pickV; rw [if_pos (by omega)]), rfl, rfl⟩⟩
 have h2r := h2
 try simp only [nq, nr] at h2
 refine qqj (qqe ?_)
 have hl0 : b.length ≠ 0 := by omega
 have hba := okB_at hb p
 refine ar (om rfl (qqa (qjk rfl rfl) (qqa (qqi fld151f1 rfl rfl) (qqa (qqc qq2 rfl rfl rfl) (qqa (qzy rfl rfl zr zr) (oa rfl (on ?_)))))))
 rw [Int.add_sub_cancel]
 refine qqe (rs (om rfl (om rfl (qqa (qjk rfl rfl) (qqa (qqi fld151f0 rfl rfl) (qqa (qqc leaf41 rfl rfl rfl) (qqa (qqg Tryz.underlying41 rfl) (qqa (qzb rfl rfl) (on (ac rfl (fun h3 => ?_) fun h3 => ?_))))))))))
 ·
  have h3r := h3
  try simp only [nq, nr] at h3
  refine rs (om rfl (qqa (qjk rfl rfl) (qqa (qqi fld151f0 rfl rfl) (qqa (qqc leaf41 rfl rfl rfl) (om rfl (qqa (qqy (n := p) slt41 rfl rfl zr (qqh zr) rfl) (qqa (qqp leaf5 rfl (qqh zr) rfl) (qqa (j_conv64 Tryz.underlying5 Tryz.underlying3 rfl zr) (om rfl (qqa (j_rem rfl rfl zr zr) (oa rfl (on (qqm ?_)))))))))))))
  exact ⟨[.p _], .p _, [.box 151 [.sl _, .p _]], [], [], ⟨rfl, trivial⟩, rfl, rfl, ⟨⟨rfl, rfl⟩, trivial⟩, rfl, rfl, ⟨qzg (by unfold pickV; rw [if_neg (by omega), if_pos (by omega)]), rfl, rfl⟩⟩
 have h3r := h3
 try simp only [nq, nr] at h3
 refine qqj (qqe (qjz qzj (by kernel_rfl) (by kernel_rfl) fun vf => ?_))
 refine qqq (qql (evo rfl)) (qqq (qjk rfl rfl) (qqq (qqi fld151f0 rfl rfl) (qqq (qqc leaf41 rfl rfl rfl) (qqq (qql (evo rfl)) (qqq (qql (evo rfl)) (qqq (qjk rfl rfl) (qqq (qqi fld151f0 rfl rfl) (qqq (qqc leaf41 rfl rfl rfl) (qqq (qqg Tryz.underlying41 rfl) ?_)))))))))
 have hx1 := okB_at hb (p % b.length)
 have hx2 := okB_at hb ((p * 7 + 3) % b.length)
 have hx3 : 0 ≤ (p : Int) / (b.length : Int) := Int.ediv_nonneg (by omega) (by omega)
 have hx4 : (p : Int) / (b.length : Int) ≤ p := Int.ediv_le_self _ (by omega)
 have hx5 : p % b.length < b.length := Nat.mod_lt _ (by omega)
 have hx6 : (p * 7 + 3) % b.length < b.length := Nat.mod_lt _ (by omega)
 have hx7 := mix_bounds hb hp hl0
 refine qqq (j_rem rfl rfl zr zr) (qqq (qqy (n := p % b.length) slt41 rfl rfl (by simp) (qqh zr) rfl) (qqq (qqp leaf5 rfl (qqh zr) rfl) (qqq (j_conv64 Tryz.underlying5 Tryz.underlying3 rfl zr) (qqq (j_mul rfl rfl zr zr) (qqq (qql (evo rfl)) (qqq (qjk rfl rfl) (qqq (qqi fld151f0 rfl rfl) (qqq (qqc leaf41 rfl rfl rfl) (qqq (qql (evo rfl)) (qqq (j_mul rfl rfl zr zr) (qqq (qjh rfl rfl zr zr) (qqq (qql (evo rfl)) (qqq (qjk rfl rfl) ?_)))))))))))))
 refine qqq (qqi fld151f0 rfl rfl) (qqq (qqc leaf41 rfl rfl rfl) (qqq (qqg Tryz.underlying41 rfl) (qqq (j_rem rfl rfl zr zr) (qqq (qqy (n := (p * 7 + 3) % b.length) slt41 rfl rfl (by simp) (qqh zr) rfl) (qqq (qqp leaf5 rfl (qqh zr) rfl) (qqq (j_conv64 Tryz.underlying5 Tryz.underlying3 rfl zr) (qqq (j_mul rfl rfl zr zr) (qqq (qjh rfl rfl zr zr) (qqq (qql (evo rfl)) (qqq (j_mul rfl rfl zr zr) (qqq (qjh rfl rfl zr zr) (qqq (qql (evo rfl)) (qqq (qql (evo rfl)) ?_)))))))))))))
 refine qqq (qjk rfl rfl) (qqq (qqi fld151f0 rfl rfl) (qqq (qqc leaf41 rfl rfl rfl) (qqq (qqg Tryz.underlying41 rfl) (qqq (j_quo rfl rfl zr zr zr) (qqq (j_mul rfl rfl zr zr) (qqq (qjh rfl rfl zr zr) (qqq (qzp (evo rfl)) (qze (by kernel_rfl) (by kernel_rfl) ?_))))))))
 refine rs (om rfl (om rfl (qqa (j_quo rfl rfl zr zr zr) (qqa (j_bits rfl rfl (fun w => run_xor (a := (mixI b p).toNat) (b := (mixI b p / 64).toNat) (by show mixI b p = _; omega) (by show mixI b p / 64 = _; omega) (by omega) (by omega) w)) ?_))))
 refine oa rfl (on (rs (om rfl (om rfl (qqa (j_rem rfl rfl zr zr) (oa rfl (on (qqm ?_))))))))
 exact ⟨[.p _], .p _, [.box 151 [.sl _, .p _]], [], [], ⟨rfl, trivial⟩, rfl, rfl, ⟨⟨rfl, rfl⟩, trivial⟩, rfl, rfl, ⟨qzg (by unfold pickV; rw [if_neg (by omega), if_neg (by omega)]), rfl, rfl⟩⟩
theorem f_num (b : List Int) (p : Nat) (l : List Int) (hb : okB b) (hp : p ≤ 1099511627776) (hl : 0 < l.length) (hl2 : l.length ≤ 1048576) : Fn Tryz.prog 130 [.ptr 0 0 0, .own 1 0] [.box 151 [.sl (b.map dU), .p (.int .i64 ((p : Nat) : Int))], .row 3 1 (l.map dI)] (fun rr ii nn => rr = .p (.int .i64 (ofV b p l)) ∧ ii = [.box 151 [.sl (b.map dU), .p (.int .i64 ((p + 1 : Nat) : Int))], .row 3 1 (l.map dI)] ∧ nn = []) := by
 refine qjm Tryz.func130 rfl (nb rfl) fun w X g => ?_
 show AWp _ _ _ ⟨[(0, .ptr 0 0 0), (1, .own 1 0)], [(0, some (0, .box 151 [.sl (b.map dU), .p (.int .i64 ((p : Nat) : Int))])), (1, some (0, .row 3 1 (l.map dI)))]⟩
 have hlt := ofV_lt (b := b) (p := p) hl
 refine rs (oa rfl (on (rs (om rfl (om rfl (om rfl (qqa (qq7 Tryz.underlying23 rfl rfl) ?_)))))))
 refine qq3 (qqn (v := .p _) (hp1 := [(0, some (0, .box 151 [.sl _, .p _]))]) [(0, 0)] false [0] ent67 (f_pick _ _ _ (by assumption) (by omega)) ⟨.inl ⟨rfl, rfl⟩, .inl ⟨rfl, rfl⟩, trivial⟩ ⟨⟨rfl, rfl⟩, trivial⟩ rfl rfl (fun h => by cases h) rfl (List.all_eq_true.1 rfl) (.inl rfl) rfl rfl) ?_
 refine qqa (qqo (n := (pickV b p (l.length : Nat)).toNat) qqz rfl rfl rfl zr zr) ?_
 refine qqa (qjd qq2 rfl rfl (qqh zr) rfl) (oa rfl (on (qqm ?_)))
 exact ⟨[.p _], .p _, [.box 151 [.sl _, .p _], .row 3 1 _], [], [], ⟨rfl, trivial⟩, rfl, rfl, ⟨⟨rfl, rfl⟩, ⟨rfl, rfl⟩, trivial⟩, rfl, rfl, ⟨rfl, rfl, rfl⟩⟩
theorem f_open (b : List Int) : Fn Tryz.prog 63 [.sl (b.map dU)] [] (fun rr ii nn => rr = .ptr 0 0 0 ∧ ii = [] ∧ nn = [.box 151 [.sl ((b.take 2000).map dU), .p (.int .i64 ((0 : Nat) : Int))]]) := by
 refine qjm Tryz.func63 rfl (nb rfl) fun w X g => ?_
 show AWp _ _ _ ⟨[(0, .sl (b.map dU))], []⟩
 refine qj6 0 rfl fun hlen => ?_
 refine rs (oa rfl (on (qqe (rs (om rfl (qqa (qqg Tryz.underlying41 rfl) (qqa (j_gt rfl rfl) (on (ac rfl (fun h1 => ?_) fun h1 => ?_)))))))))
 ·
  have h1r := h1
  try simp only [nq, nr] at h1
  refine ar (om rfl ?_)
  refine qqa (j_cut slt41 rfl (fun y hy => by obtain ⟨t, _, rfl⟩ := List.mem_map.1 hy; rfl) Bd.none (Bd.some rfl rfl) zr zr) ?_
  refine oa rfl (on (rs (om rfl (qqa (qzu (parts := [(0, .tmp 8)]) str151 elt151 rfl rfl) (qq5 (fun ver => qj3 rfl) fun v10x1 => ?_)))))
  refine oa rfl (on (qqm ?_))
  exact ⟨[.ptr 10 v10x1 0], .ptr 0 0 0, [], [.box 151 [.sl _, .p _]], [(10, v10x1)], ⟨rfl, trivial⟩, rfl, rfl, ⟨⟨rfl, rfl⟩, trivial⟩, rfl, rfl, ⟨rfl, rfl, by first | (simp only [List.drop_zero, ← List.map_take]; rfl) | (rw [List.take_of_length_le (by omega)]; rfl)⟩⟩
 have h1r := h1
 try simp only [nq, nr] at h1
 refine qqj (rs (om rfl (qqa (qzu (parts := [(0, .tmp 8)]) str151 elt151 rfl rfl) (qq5 (fun ver => qj3 rfl) fun v10x2 => ?_))))
 refine oa rfl (on (qqm ?_))
 exact ⟨[.ptr 10 v10x2 0], .ptr 0 0 0, [], [.box 151 [.sl _, .p _]], [(10, v10x2)], ⟨rfl, trivial⟩, rfl, rfl, ⟨⟨rfl, rfl⟩, trivial⟩, rfl, rfl, ⟨rfl, rfl, by first | (simp only [List.drop_zero, ← List.map_take]; rfl) | (rw [List.take_of_length_le (by omega)]; rfl)⟩⟩
theorem f_cpBools (a b : List Bool) : Fn Tryz.prog 33 [.sl (a.map dB), .sl (b.map dB)] [] (fun rr ii nn => rr = .p (.bool (decide (a = b))) ∧ ii = [] ∧ nn = []) := by
 refine qjm Tryz.func33 rfl (nb rfl) fun w X g => ?_
 show AWp _ _ _ ⟨[(0, .sl (a.map dB)), (1, .sl (b.map dB))], []⟩
 refine qj6 0 rfl fun hla => ?_
 refine rs (oa rfl (on (qqe (rs (om rfl (qqa (qqg Tryz.underlying44 rfl) (om rfl (qqa (qqg Tryz.underlying44 rfl) (qqa (j_ne rfl rfl) (on (ac rfl (fun h1 => ?_) fun h1 => ?_)))))))))))
 ·
  have h1r := h1
  try simp only [nq, nr] at h1
  refine rs (oa rfl (on (qqm ?_)))
  exact qq8 rfl ⟨qqv (by symm; rw [decide_eq_false_iff_not]; rintro rfl; exact h1 rfl), rfl, rfl⟩
 have h1r := h1
 try simp only [nq, nr] at h1
 refine qqj (qqe (rs (oa rfl (on (qqf (qqr (ι := Nat) (fun k => k ≤ a.length ∧ a.take k = b.take k) (fun k r => (5, .p (.int .i64 ((k : Nat)))) :: r) (fun k r => r) (fun k => a.length - k) (fun _ _ => rfl) (fun _ _ => rfl) 0 ⟨Nat.zero_le _, rfl⟩ ⟨⟨rfl, rfl⟩, ⟨rfl, trivial⟩, trivial, ⟨rfl, rfl⟩, ⟨rfl, rfl⟩⟩ ?_))))))
 intro k hpre0
 have hpre := hpre0.1
 refine qqe (rs (om rfl (om rfl (qqa (qqg Tryz.underlying44 rfl) (qqa (qzb rfl rfl) (on (ac rfl (fun h2 => ?_) fun h2 => ?_)))))))
 ·
  have h2r := h2
  try simp only [nq, nr] at h2
  refine qqj (qqe (qqf (qqe (qjz qzj (by kernel_rfl) (by kernel_rfl) fun vf => ?_))))
  refine qqq (qql (evo rfl)) (qqq (qql (evo rfl)) (qqq (qqy slt44 rfl rfl rfl (qqh (by omega)) rfl) (qqq (qqp leaf4 rfl (qqh (by omega)) rfl) (qqq (qql (evo rfl)) (qqq (qql (evo rfl)) (qqq (qqy slt44 rfl rfl rfl (qqh (by omega)) rfl) (qqq (qqp leaf4 rfl (qqh (by omega)) rfl) (qqq (j_neb Tryz.underlying4 rfl rfl) (qze (by kernel_rfl) (by kernel_rfl) ?_)))))))))
  refine ac rfl (fun h3 => ?_) fun h3 => ?_
  ·
   have h3r := h3
   try simp only [nq, nr] at h3
   refine rs (oa rfl (on (qqm ?_)))
   exact qq8 rfl ⟨qqv (by symm; rw [decide_eq_false_iff_not]; rintro rfl; exact h3 rfl), rfl, rfl⟩
  have h3r := h3
  try simp only [nq, nr] at h3
  refine qqj (ar (om rfl (qqa (qjh rfl rfl (by omega) (by omega)) (oa rfl (on ?_)))))
  exact ⟨k + 1, ⟨(by omega), take_next hpre0.2 (by omega) (by omega) h3⟩, ⟨⟨rfl, rfl⟩, ⟨rfl, trivial⟩, trivial, ⟨rfl, rfl⟩, ⟨rfl, rfl⟩⟩, (by omega)⟩
 have h2r := h2
 try simp only [nq, nr] at h2
 refine qja (rs (oa rfl (on (qqm ?_))))
 exact qq8 rfl ⟨qqv (by symm; rw [decide_eq_true_eq]; exact take_eq hpre0.2 (by omega) (by omega)), rfl, rfl⟩
end Go.Ab

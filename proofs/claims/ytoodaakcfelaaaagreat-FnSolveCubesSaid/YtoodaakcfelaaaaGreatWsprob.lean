/- Walks. -/
import Derived.Test.YtoodaakcfelaaaaGreatBase
import Derived.Test.YtoodaakcfelaaaaGreatSimp
import Derived.Test.YtoodaakcfelaaaaGreatWsfun
import Derived.Test.YtoodaakcfelaaaaGreatWsdrawd
import Derived.Test.YtoodaakcfelaaaaGreatWsenum
namespace Go.Ab
open Go.Proofs
set_option maxRecDepth 100000
set_option maxHeartbeats 8000000
set_option linter.unusedSimpArgs false
set_option linter.unusedVariables false
theorem f_allV1 (c : Con) : Fn Tryz.prog 181 [.agg [.sl (c.1.map dT), .p (.int .i64 c.2)]] [] (fun rr ii nn => rr = .p (.bool (!cOk c)) ∧ ii = [] ∧ nn = []) := by
 refine qjl Tryz.func181 rfl (nb rfl) fun w X g => ?_
 show AWp _ _ _ ⟨[(0, .agg [.sl (c.1.map dT), .p (.int .i64 c.2)])], []⟩
 refine rs (qqv (fun ver => qzg rfl) fun v1x1 => ?_)
 refine oa rfl (on (rs (qqa (qqg (ys := [.sl _, .p _]) qq7 rfl rfl rfl (nb rfl)) ?_)))
 refine qq0 (qqn (v := .p _) (hp1 := []) [] false [] ent115 (f_cvImpl _) ⟨.inl ⟨rfl, rfl⟩, trivial⟩ trivial rfl rfl (fun h => by cases h) rfl (fun _ h => by cases h) (.inl rfl) rfl rfl) ?_
 refine qqa (qzk rfl) (oa rfl (on (qqx ?_)))
 exact qjt rfl ⟨rfl, rfl, rfl⟩
theorem f_allV (l : List Con) : Fn Tryz.prog 133 [.sl (l.map dC)] [] (fun rr ii nn => rr = .p (.bool (l.all cOk)) ∧ ii = [] ∧ nn = []) := by
 refine qjl Tryz.func133 rfl (nb rfl) fun w X g => ?_
 show AWp _ _ _ ⟨[(0, .sl (l.map dC))], []⟩
 refine rs (oa rfl (on (rs (om rfl ?_))))
 refine qq0 (qqn (v := .p _) (hp1 := []) [] false [] ent124 (f_ctf_Con_0 181 l (fun c => !cOk c) ent181 (fun c _ => f_allV1 c)) ⟨.inl ⟨rfl, rfl⟩, .inl ⟨rfl, rfl⟩, trivial⟩ trivial rfl rfl (fun h => by cases h) rfl (fun _ h => by cases h) (.inl rfl) rfl rfl) ?_
 refine qqa (qzk rfl) (oa rfl (on (qqx ?_)))
 exact qjt rfl ⟨qje not_any_not, rfl, rfl⟩
theorem f_pvImpl (l : List Con) : Fn Tryz.prog 69 [.sl (l.map dC)] [] (fun rr ii nn => rr = .p (.bool (pOk l)) ∧ ii = [] ∧ nn = []) := by
 refine qjl Tryz.func69 rfl (nb rfl) fun w X g => ?_
 show AWp _ _ _ ⟨[(0, .sl (l.map dC))], []⟩
 refine rs (oa rfl (on (rs (om rfl (qqa (qqw Tryz.underlying30 rfl) (qqa (j_le rfl rfl) (om rfl (qqz 6 rfl (fun h1 => ?_) (fun h1 => ?_)))))))))
 ·
  have h1r := h1
  try simp only [nq, nr] at h1
  refine qqa (qqd rfl rfl h1r (qqj (evo rfl))) ?_
  refine qq0 (qqd rfl rfl h1r (qqn (v := .p _) (hp1 := []) [] false [] ent133 (f_allV _) ⟨.inl ⟨rfl, rfl⟩, trivial⟩ trivial rfl rfl (fun h => by cases h) rfl (fun _ h => by cases h) (.inl rfl) rfl rfl)) ?_
  refine qqa (qqr rfl h1r (evo rfl)) (oa rfl (on (qqx ?_)))
  exact qjt rfl ⟨qje (by unfold pOk; first | (rw [decide_eq_true (show l.length ≤ 400 by omega), Bool.true_and]) | (rw [decide_eq_false (show ¬ l.length ≤ 400 by omega), Bool.false_and])), rfl, rfl⟩
 have h1r := h1
 try simp only [nq, nr] at h1
 refine qqa (qqb rfl rfl h1r) (qqa (qqb rfl rfl h1r) (qqa (qqy rfl h1r (evo rfl)) (oa rfl (on (qqx ?_)))))
 exact qjt rfl ⟨qje (by unfold pOk; first | (rw [decide_eq_true (show l.length ≤ 400 by omega), Bool.true_and]) | (rw [decide_eq_false (show ¬ l.length ≤ 400 by omega), Bool.false_and])), rfl, rfl⟩
theorem f_pvSpec (l : List Con) : Fn Tryz.prog 48 [.sl (l.map dC)] [] (fun rr ii nn => rr = .p (.bool (pOk l)) ∧ ii = [] ∧ nn = []) := by
 refine qjl Tryz.func48 rfl (nb rfl) fun w X g => ?_
 show AWp _ _ _ ⟨[(0, .sl (l.map dC))], []⟩
 refine a_len_map 0 rfl fun hlen => ?_
 refine rs (oa rfl (on (qqf (rs (oa rfl (on (qqk (qq4 (ι := Nat) (fun k => k ≤ l.length ∧ (l.take k).all cOk = true) (fun k r => (3, .p (.int .i64 ((k : Nat)))) :: r) (fun k r => r) (fun k => l.length - k) (fun _ _ => rfl) (fun _ _ => rfl) 0 ⟨Nat.zero_le _, rfl⟩ ⟨⟨rfl, rfl⟩, ⟨rfl, trivial⟩, trivial, ⟨rfl, rfl⟩, ⟨rfl, rfl⟩⟩ ?_))))))))
 intro k hpre
 refine qqf (rs (om rfl (om rfl (qqa (qqw Tryz.underlying30 rfl) (qqa (qzt rfl rfl) (on (ac rfl (fun h1 => ?_) fun h1 => ?_)))))))
 ·
  have h1r := h1
  try simp only [nq, nr] at h1
  refine qqo (qqf (qqk (rs (om rfl (om rfl (qqa (qq9 qj7 rfl rfl rfl (qqq (by omega)) rfl) (qqa (qjw (ys := [.sl _, .p _]) qq7 rfl (qqq (by omega)) rfl (Nat.le_refl _)) ?_)))))))
  refine qq0 (qqn (v := .p _) (hp1 := []) [] false [] ent118 (f_cvSpec (l.getD k default)) ⟨.inl ⟨rfl, rfl⟩, trivial⟩ trivial rfl rfl (fun h => by cases h) rfl (fun _ h => by cases h) (.inl rfl) rfl rfl) ?_
  refine qqa (qzk rfl) (on (ac rfl (fun h2 => ?_) fun h2 => ?_))
  ·
   have h2r := h2
   try simp only [nq, nr] at h2
   refine rs (oa rfl (on (qqx ?_)))
   exact qjt rfl ⟨qje (by unfold pOk; rw [all_no (d := default) (k := k) (by omega) (by assumption), Bool.and_false]), rfl, rfl⟩
  have h2r := h2
  try simp only [nq, nr] at h2
  refine qqo (ar (om rfl (qqa (qjh rfl rfl (by omega) (by omega)) (oa rfl (on ?_)))))
  exact ⟨k + 1, ⟨by omega, all_next (d := default) hpre.2 (by omega) (by assumption)⟩, ⟨⟨rfl, rfl⟩, ⟨rfl, trivial⟩, trivial, ⟨rfl, rfl⟩, ⟨rfl, rfl⟩⟩, (by omega)⟩
 have h1r := h1
 try simp only [nq, nr] at h1
 refine qjf (rs (om rfl (qqa (qqw Tryz.underlying30 rfl) (qqa (j_le rfl rfl) (oa rfl (on (qqx ?_)))))))
 exact qjt rfl ⟨qje (by unfold pOk; rw [all_full hpre.2 (by omega), Bool.and_true]; exact decide_eq_decide.2 (by omega)), rfl, rfl⟩
theorem f_sat1 (c : Con) (bs : List Bool) (hc : cOk c = true) (hb : bs.length = 12) : Fn Tryz.prog 125 [.agg [.sl (c.1.map dT), .p (.int .i64 c.2)], .ptr 0 0 0] [.box 44 [.sl (bs.map dB)]] (fun rr ii nn => rr = .p (.bool (!holdsV c bs)) ∧ ii = [.box 44 [.sl (bs.map dB)]] ∧ nn = []) := by
 refine qjl Tryz.func125 rfl (nb rfl) fun w X g => ?_
 show AWp _ _ _ ⟨[(0, .agg [.sl (c.1.map dT), .p (.int .i64 c.2)]), (1, .ptr 0 0 0)], [(0, some (0, .box 44 [.sl (bs.map dB)]))]⟩
 refine rs (qqv (fun ver => qzg rfl) fun v2x1 => ?_)
 refine oa rfl (on (rs (qqa (qqg (ys := [.sl _, .p _]) qq7 rfl rfl rfl (nb rfl)) (qqa (qqc leaf44 rfl rfl rfl) ?_))))
 refine qq0 (qqn (v := .p _) (hp1 := []) [] false [] ent126 (f_holdsC c bs hc hb) ⟨.inl ⟨rfl, rfl⟩, .inl ⟨rfl, rfl⟩, trivial⟩ trivial rfl rfl (fun h => by cases h) rfl (fun _ h => by cases h) (.inl rfl) rfl rfl) ?_
 refine qqa (qzk rfl) (oa rfl (on (qqx ?_)))
 exact ⟨[.p _], .p _, [.box 44 [.sl _]], [], [], ⟨rfl, trivial⟩, rfl, rfl, ⟨⟨rfl, rfl⟩, trivial⟩, rfl, rfl, ⟨rfl, rfl, rfl⟩⟩
theorem f_sat (l : List Con) (bs : List Bool) (hl : l.all cOk = true) (hb : bs.length = 12) : Fn Tryz.prog 58 [.sl (l.map dC), .sl (bs.map dB)] [] (fun rr ii nn => rr = .p (.bool (satV l bs)) ∧ ii = [] ∧ nn = []) := by
 refine qjl Tryz.func58 rfl (nb rfl) fun w X g => ?_
 show AWp _ _ _ ⟨[(0, .sl (l.map dC)), (1, .sl (bs.map dB))], []⟩
 refine rs (qqv (fun ver => j_box (evo rfl) rfl) fun v3x1 => ?_)
 refine oa rfl (on (rs (om rfl (qqa (j_makeFunc (f := 125) (xs := [.tmp 3]) (caps := [.ptr 3 v3x1 0]) rfl) ?_))))
 refine qq0 (qqn (v := .p _) (hp1 := [(3, some (v3x1, .box 44 [.sl _]))]) [(3, v3x1)] false [3] ent124 (f_ctf_Con_sl 44 (bs.map dB) 125 l (fun c => !holdsV c bs) ent125 (fun c hc => f_sat1 c bs (List.all_eq_true.1 hl c hc) hb)) ⟨.inl ⟨rfl, rfl⟩, .inl ⟨rfl, rfl⟩, trivial⟩ ⟨⟨rfl, rfl⟩, trivial⟩ rfl rfl (fun h => by cases h) rfl (List.all_eq_true.1 rfl) (.inl rfl) rfl rfl) ?_
 refine qqa (qzk rfl) (oa rfl (on (qqx ?_)))
 exact qjt rfl ⟨qje not_any_not, rfl, rfl⟩
theorem f_sa (l : List Con) (bs : List Bool) : Fn Tryz.prog 23 [.sl (l.map dC), .sl (bs.map dB)] [] (fun rr ii nn => rr = .p (.bool (saV l bs)) ∧ ii = [] ∧ nn = []) := by
 refine qjl Tryz.func23 rfl (nb rfl) fun w X g => ?_
 show AWp _ _ _ ⟨[(0, .sl (l.map dC)), (1, .sl (bs.map dB))], []⟩
 refine rs (oa rfl (on (rs (om rfl ?_))))
 refine qq0 (qqn (v := .p _) (hp1 := []) [] false [] ent69 (f_pvImpl _) ⟨.inl ⟨rfl, rfl⟩, trivial⟩ trivial rfl rfl (fun h => by cases h) rfl (fun _ h => by cases h) (.inl rfl) rfl rfl) ?_
 refine om rfl (qqz 7 rfl (fun h1 => ?_) (fun h1 => ?_))
 ·
  have h1r := h1
  try simp only [nq, nr] at h1
  refine qqa (qqd rfl rfl h1r (qqj (evo rfl))) (qqa (qqd rfl rfl h1r (qqw Tryz.underlying44 rfl)) (qqa (qqd rfl rfl h1r (qz5 rfl rfl)) (qqa (qqr rfl h1r (evo rfl)) (om rfl (qqz 12 rfl (fun h2 => ?_) (fun h2 => ?_))))))
  ·
   have h2r := h2
   try simp only [nq, nr] at h2
   refine qqa (qqd rfl rfl h2r (qqj (evo rfl))) (qqa (qqd rfl rfl h2r (qqj (evo rfl))) ?_)
   refine qq0 (qqd rfl rfl h2r (qqn (v := .p _) (hp1 := []) [] false [] ent58 (f_sat l bs (pOk_all (by assumption)) (by omega)) ⟨.inl ⟨rfl, rfl⟩, .inl ⟨rfl, rfl⟩, trivial⟩ trivial rfl rfl (fun h => by cases h) rfl (fun _ h => by cases h) (.inl rfl) rfl rfl)) ?_
   refine qqa (qqr rfl h2r (evo rfl)) (oa rfl (on (qqx ?_)))
   exact qjt rfl ⟨qje (by unfold saV; rw [show pOk l = _ by assumption]; first | rfl | (rw [decide_eq_true (show bs.length = 12 by omega)]; rfl) | (rw [decide_eq_false (show ¬ bs.length = 12 by omega)]; rfl)), rfl, rfl⟩
  have h2r := h2
  try simp only [nq, nr] at h2
  refine qqa (qqb rfl rfl h2r) (qqa (qqb rfl rfl h2r) (qqa (qqb rfl rfl h2r) (qqa (qqy rfl h2r (evo rfl)) (oa rfl (on (qqx ?_))))))
  exact qjt rfl ⟨qje (by unfold saV; rw [show pOk l = _ by assumption]; first | rfl | (rw [decide_eq_true (show bs.length = 12 by omega)]; rfl) | (rw [decide_eq_false (show ¬ bs.length = 12 by omega)]; rfl)), rfl, rfl⟩
 have h1r := h1
 try simp only [nq, nr] at h1
 refine qqa (qqb rfl rfl h1r) (qqa (qqb rfl rfl h1r) (qqa (qqb rfl rfl h1r) (qqa (qqy rfl h1r (evo rfl)) (om rfl (qqa (qqb rfl rfl rfl) (qqa (qqb rfl rfl rfl) (qqa (qqb rfl rfl rfl) (qqa (qqy rfl rfl (evo rfl)) (oa rfl (on (qqx ?_)))))))))))
 exact qjt rfl ⟨qje (by unfold saV; rw [show pOk l = _ by assumption]; first | rfl | (rw [decide_eq_true (show bs.length = 12 by omega)]; rfl) | (rw [decide_eq_false (show ¬ bs.length = 12 by omega)]; rfl)), rfl, rfl⟩
theorem f_csImpl (l : List Con) : Fn Tryz.prog 34 [.sl (l.map dC)] [] (fun rr ii nn => rr = .p (.int .i64 (csV l)) ∧ ii = [] ∧ nn = []) := by
 refine qjl Tryz.func34 rfl (nb rfl) fun w X g => ?_
 show AWp _ _ _ ⟨[(0, .sl (l.map dC))], []⟩
 refine rs (oa rfl (on (qqf (rs (om rfl ?_)))))
 refine qq0 (qqn (v := .p _) (hp1 := []) [] false [] ent69 (f_pvImpl _) ⟨.inl ⟨rfl, rfl⟩, trivial⟩ trivial rfl rfl (fun h => by cases h) rfl (fun _ h => by cases h) (.inl rfl) rfl rfl) ?_
 refine qqa (qzk rfl) (on (ac rfl (fun h1 => ?_) fun h1 => ?_))
 ·
  have h1r := h1
  try simp only [nq, nr] at h1
  refine rs (oa rfl (on (qqx ?_)))
  exact qjt rfl ⟨qz1 (by unfold csV; rw [if_neg (by rw [h1]; decide)]), rfl, rfl⟩
 have h1r := h1
 try simp only [nq, nr] at h1
 refine qqo (rs (oa rfl (on (qqf (rs (om rfl (on (qqk (qq4 (ι := Nat) (fun k => k ≤ 4096) (fun k r => (8, .p (.int .i64 ((k : Nat)))) :: (3, .p (.int .i64 (((cntS l k : Nat) : Int)))) :: r) (fun k r => r) (fun k => 4096 - k) (fun _ _ => rfl) (fun _ _ => rfl) 0 (by omega) ⟨⟨rfl, rfl⟩, ⟨rfl, rfl, trivial⟩, trivial, ⟨rfl, rfl⟩, ⟨rfl, rfl⟩⟩ ?_)))))))))
 intro k hpre0
 refine rs (qqa (qzt rfl rfl) (on (qqf (ac rfl (fun h2 => ?_) fun h2 => ?_))))
 ·
  have h2r := h2
  try simp only [nq, nr] at h2
  refine qqo (qqf (qqk (rs (om rfl (oa rfl (on (rs (om rfl (om rfl ?_)))))))))
  refine qz0 (fun ver => qza (v := .own 13 ver) (hp1 := [(13, some (ver, .row 4 1 _))]) [] false [] ent71 (f_numbered _ (by omega)) ⟨.inl ⟨rfl, rfl⟩, trivial⟩ trivial rfl rfl rfl (fun h => by cases h) rfl (List.all_eq_true.1 rfl) (.inl rfl) rfl rfl) fun v13x1 => ?_
  refine qq0 (qqn (v := .p _) (hp1 := []) [] true [13] ent58 (f_sat l (assn k) (pOk_all h1) assn_length) ⟨.inl ⟨rfl, rfl⟩, .inr ⟨rfl, qzq rfl rfl, rfl⟩, trivial⟩ trivial rfl rfl (fun _ => rfl) rfl (fun _ h => by cases h) (.inr ⟨rfl, by first | exact pl_new1 (fun _ => rfl) | exact pl_newC | (simp [plO, plV, plV.plL]; done)⟩) rfl rfl) ?_
  refine on (ac rfl (fun h3 => ?_) fun h3 => ?_)
  ·
   have h3r := h3
   try simp only [nq, nr] at h3
   refine ar (om rfl (qqa (qjh rfl rfl (by omega) (by have := cntS_le (l := l) (k := k); omega)) (oa rfl (on (ar (qqa (qjh rfl rfl (by omega) (by omega)) (om rfl (on ?_))))))))
   exact ⟨k + 1, (by omega), ⟨⟨rfl, rfl⟩, ⟨rfl, qz1 (by rw [cntS_succ, if_pos h3r]; rfl), trivial⟩, trivial, ⟨rfl, rfl⟩, ⟨rfl, rfl⟩⟩, (by omega)⟩
  have h3r := h3
  try simp only [nq, nr] at h3
  refine qqo (ar (qqa (qjh rfl rfl (by omega) (by omega)) (om rfl (on ?_))))
  exact ⟨k + 1, (by omega), ⟨⟨rfl, rfl⟩, ⟨rfl, qz1 (by rw [cntS_succ, if_neg (by rw [h3r]; decide), Nat.add_zero]), trivial⟩, trivial, ⟨rfl, rfl⟩, ⟨rfl, rfl⟩⟩, (by omega)⟩
 have h2r := h2
 try simp only [nq, nr] at h2
 refine qjf (rs (om rfl (oa rfl (on (qqx ?_)))))
 exact qjt rfl ⟨qz1 (by unfold csV; rw [if_pos h1, show k = 4096 by omega]), rfl, rfl⟩
end Go.Ab

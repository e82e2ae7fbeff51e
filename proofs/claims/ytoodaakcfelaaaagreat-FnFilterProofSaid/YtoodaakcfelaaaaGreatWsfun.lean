/- Walks. -/
import Derived.Test.YtoodaakcfelaaaaGreatBase
import Derived.Test.YtoodaakcfelaaaaGreatSimp
import Derived.Test.YtoodaakcfelaaaaGreatWscons
namespace Go.Ab
open Go.Proofs
set_option maxRecDepth 100000
set_option maxHeartbeats 8000000
set_option linter.unusedSimpArgs false
set_option linter.unusedVariables false
theorem f_idx_Con_0 (F : Nat) (l : List (Con)) (p : Con → Bool) (hE : Ent' Tryz.prog F) (hF : ∀ a ∈ l, Fn Tryz.prog F [.agg [.sl (a.1.map dT), .p (.int .i64 a.2)]] [] (fun r i n => r = .p (.bool (p a)) ∧ i = [] ∧ n = [])) : Fn Tryz.prog 178 [.sl (l.map dC), .fn F []] [] (fun rr ii nn => rr = .p (.int .i64 (idxF p l 0)) ∧ ii = [] ∧ nn = []) := by
 refine qjm Tryz.func178 rfl (nb rfl) fun w X g => ?_
 show AWp _ _ _ ⟨[(0, .sl (l.map dC)), (1, .fn F [])], []⟩
 refine qj6 0 rfl fun hlen => ?_
 refine rs (oa rfl (on (qqe (rs (om rfl (qqa (qqg Tryz.underlying30 rfl) (om rfl (on (qqf (qqr (ι := Nat) (fun k => k ≤ l.length ∧ idxF p l 0 = idxF p (l.drop k) (k : Int)) (fun k r => (8, .p (.int .i64 ((k : Nat)))) :: r) (fun k r => r) (fun k => l.length - k) (fun _ _ => rfl) (fun _ _ => rfl) 0 ⟨Nat.zero_le _, rfl⟩ ⟨⟨rfl, rfl⟩, ⟨rfl, trivial⟩, trivial, ⟨rfl, rfl⟩, ⟨rfl, rfl⟩⟩ ?_))))))))))
 intro k hpre
 refine rs (qqa (qzb rfl rfl) (on (qqe (ac rfl (fun h1 => ?_) fun h1 => ?_))))
 ·
  have h1r := h1
  try simp only [nq, nr] at h1
  refine qqj (qqe (qqf (rs (om rfl (oa rfl (on (rs (om rfl (om rfl (om rfl (qqa (qqy slt30 rfl rfl rfl (qqh (by omega)) rfl) (qqa (qzf (ys := [.sl _, .p _]) qzn rfl (qqh (by omega)) rfl (Nat.le_refl _)) ?_))))))))))))
  refine qq3 (j_callF0 (v := .p _) (hp1 := []) [] false [] rfl hE (hF (l.getD k default) (qzo (by omega))) ⟨.inl ⟨rfl, rfl⟩, trivial⟩ trivial rfl rfl (fun h => by cases h) rfl (fun _ h => by cases h) (.inl rfl) rfl rfl) ?_
  refine on (ac rfl (fun h2 => ?_) fun h2 => ?_)
  ·
   have h2r := h2
   try simp only [nq, nr] at h2
   refine rs (om rfl (oa rfl (on (qqm ?_))))
   exact qq8 rfl ⟨qzg (by rw [hpre.2, idxF_hit (d := default) (by omega) (by assumption)]), rfl, rfl⟩
  have h2r := h2
  try simp only [nq, nr] at h2
  refine qqj (ar (qqa (qjh rfl rfl (by omega) (by omega)) (om rfl (on ?_))))
  exact ⟨k + 1, ⟨by omega, by rw [hpre.2, idxF_skip (d := default) (by omega) (by assumption)]⟩, ⟨⟨rfl, rfl⟩, ⟨rfl, trivial⟩, trivial, ⟨rfl, rfl⟩, ⟨rfl, rfl⟩⟩, (by omega)⟩
 have h1r := h1
 try simp only [nq, nr] at h1
 refine qja (rs (oa rfl (on (qqm ?_))))
 exact qq8 rfl ⟨qzg (by rw [hpre.2, idxF_end (by omega)]), rfl, rfl⟩
theorem f_ctf_Con_0 (F : Nat) (l : List (Con)) (p : Con → Bool) (hE : Ent' Tryz.prog F) (hF : ∀ a ∈ l, Fn Tryz.prog F [.agg [.sl (a.1.map dT), .p (.int .i64 a.2)]] [] (fun r i n => r = .p (.bool (p a)) ∧ i = [] ∧ n = [])) : Fn Tryz.prog 124 [.sl (l.map dC), .fn F []] [] (fun rr ii nn => rr = .p (.bool (l.any p)) ∧ ii = [] ∧ nn = []) := by
 refine qjm Tryz.func124 rfl (nb rfl) fun w X g => ?_
 show AWp _ _ _ ⟨[(0, .sl (l.map dC)), (1, .fn F [])], []⟩
 refine rs (oa rfl (on (rs (om rfl (om rfl ?_)))))
 refine qq3 (qqn (v := .p _) (hp1 := []) [] false [] ent178 (f_idx_Con_0  F l p hE hF) ⟨.inl ⟨rfl, rfl⟩, .inl ⟨rfl, rfl⟩, trivial⟩ trivial rfl rfl (fun h => by cases h) rfl (fun _ h => by cases h) (.inl rfl) rfl rfl) ?_
 refine qqa (j_ge rfl rfl) (oa rfl (on (qqm ?_)))
 exact qq8 rfl ⟨qqv (idxF_any (Int.le_refl 0)), rfl, rfl⟩
theorem f_idx_Int_0 (F : Nat) (l : List (Int)) (p : Int → Bool) (hE : Ent' Tryz.prog F) (hF : ∀ a ∈ l, Fn Tryz.prog F [.p (.int .i64 a)] [] (fun r i n => r = .p (.bool (p a)) ∧ i = [] ∧ n = [])) : Fn Tryz.prog 244 [.sl (l.map dI), .fn F []] [] (fun rr ii nn => rr = .p (.int .i64 (idxF p l 0)) ∧ ii = [] ∧ nn = []) := by
 refine qjm Tryz.func244 rfl (nb rfl) fun w X g => ?_
 show AWp _ _ _ ⟨[(0, .sl (l.map dI)), (1, .fn F [])], []⟩
 refine qj6 0 rfl fun hlen => ?_
 refine rs (oa rfl (on (qqe (rs (om rfl (qqa (qqg Tryz.underlying23 rfl) (om rfl (on (qqf (qqr (ι := Nat) (fun k => k ≤ l.length ∧ idxF p l 0 = idxF p (l.drop k) (k : Int)) (fun k r => (8, .p (.int .i64 ((k : Nat)))) :: r) (fun k r => r) (fun k => l.length - k) (fun _ _ => rfl) (fun _ _ => rfl) 0 ⟨Nat.zero_le _, rfl⟩ ⟨⟨rfl, rfl⟩, ⟨rfl, trivial⟩, trivial, ⟨rfl, rfl⟩, ⟨rfl, rfl⟩⟩ ?_))))))))))
 intro k hpre
 refine rs (qqa (qzb rfl rfl) (on (qqe (ac rfl (fun h1 => ?_) fun h1 => ?_))))
 ·
  have h1r := h1
  try simp only [nq, nr] at h1
  refine qqj (qqe (qqf (rs (om rfl (oa rfl (on (rs (om rfl (om rfl (om rfl (qqa (qqy qqz rfl rfl rfl (qqh (by omega)) rfl) (qqa (qqp qq2 rfl (qqh (by omega)) rfl) ?_))))))))))))
  refine qq3 (j_callF0 (v := .p _) (hp1 := []) [] false [] rfl hE (hF (l.getD k default) (qzo (by omega))) ⟨.inl ⟨rfl, rfl⟩, trivial⟩ trivial rfl rfl (fun h => by cases h) rfl (fun _ h => by cases h) (.inl rfl) rfl rfl) ?_
  refine on (ac rfl (fun h2 => ?_) fun h2 => ?_)
  ·
   have h2r := h2
   try simp only [nq, nr] at h2
   refine rs (om rfl (oa rfl (on (qqm ?_))))
   exact qq8 rfl ⟨qzg (by rw [hpre.2, idxF_hit (d := default) (by omega) (by assumption)]), rfl, rfl⟩
  have h2r := h2
  try simp only [nq, nr] at h2
  refine qqj (ar (qqa (qjh rfl rfl (by omega) (by omega)) (om rfl (on ?_))))
  exact ⟨k + 1, ⟨by omega, by rw [hpre.2, idxF_skip (d := default) (by omega) (by assumption)]⟩, ⟨⟨rfl, rfl⟩, ⟨rfl, trivial⟩, trivial, ⟨rfl, rfl⟩, ⟨rfl, rfl⟩⟩, (by omega)⟩
 have h1r := h1
 try simp only [nq, nr] at h1
 refine qja (rs (oa rfl (on (qqm ?_))))
 exact qq8 rfl ⟨qzg (by rw [hpre.2, idxF_end (by omega)]), rfl, rfl⟩
theorem f_ctf_Int_0 (F : Nat) (l : List (Int)) (p : Int → Bool) (hE : Ent' Tryz.prog F) (hF : ∀ a ∈ l, Fn Tryz.prog F [.p (.int .i64 a)] [] (fun r i n => r = .p (.bool (p a)) ∧ i = [] ∧ n = [])) : Fn Tryz.prog 196 [.sl (l.map dI), .fn F []] [] (fun rr ii nn => rr = .p (.bool (l.any p)) ∧ ii = [] ∧ nn = []) := by
 refine qjm Tryz.func196 rfl (nb rfl) fun w X g => ?_
 show AWp _ _ _ ⟨[(0, .sl (l.map dI)), (1, .fn F [])], []⟩
 refine rs (oa rfl (on (rs (om rfl (om rfl ?_)))))
 refine qq3 (qqn (v := .p _) (hp1 := []) [] false [] ent244 (f_idx_Int_0  F l p hE hF) ⟨.inl ⟨rfl, rfl⟩, .inl ⟨rfl, rfl⟩, trivial⟩ trivial rfl rfl (fun h => by cases h) rfl (fun _ h => by cases h) (.inl rfl) rfl rfl) ?_
 refine qqa (j_ge rfl rfl) (oa rfl (on (qqm ?_)))
 exact qq8 rfl ⟨qqv (idxF_any (Int.le_refl 0)), rfl, rfl⟩
end Go.Ab

/- Walks. -/
import Derived.Test.YtoodaakcfelaaaaBase
import Derived.Test.YtoodaakcfelaaaaSimp
import Derived.Test.YtoodaakcfelaaaaWscons
namespace Go.Ab
open Go.Proofs
set_option maxRecDepth 100000
set_option maxHeartbeats 8000000
set_option linter.unusedSimpArgs false
set_option linter.unusedVariables false
theorem f_idx_Con_0 (F : Nat) (l : List (Con)) (p : Con → Bool) (hE : Ent' Try.prog F) (hF : ∀ a ∈ l, Fn Try.prog F [.agg [.sl (a.1.map dT), .p (.int .i64 a.2)]] [] (fun r i n => r = .p (.bool (p a)) ∧ i = [] ∧ n = [])) : Fn Try.prog 87 [.sl (l.map dC), .fn F []] [] (fun rr ii nn => rr = .p (.int .i64 (idxF p l 0)) ∧ ii = [] ∧ nn = []) := by
 refine qjj Try.func87 rfl (nb rfl) fun w X g => ?_
 show AWp _ _ _ ⟨[(0, .sl (l.map dC)), (1, .fn F [])], []⟩
 refine qzb 0 rfl fun hlen => ?_
 refine rs (oa rfl (on (qqd (rs (om rfl (qqa (qqs Try.underlying29 rfl) (om rfl (on (qqh (qqt (ι := Nat) (fun k => k ≤ l.length ∧ idxF p l 0 = idxF p (l.drop k) (k : Int)) (fun k r => (8, .p (.int .i64 ((k : Nat)))) :: r) (fun k r => r) (fun k => l.length - k) (fun _ _ => rfl) (fun _ _ => rfl) 0 ⟨Nat.zero_le _, rfl⟩ ⟨⟨rfl, rfl⟩, ⟨rfl, trivial⟩, trivial, ⟨rfl, rfl⟩, ⟨rfl, rfl⟩⟩ ?_))))))))))
 intro k hpre
 refine rs (qqa (qzk rfl rfl) (on (qqd (ac rfl (fun h1 => ?_) fun h1 => ?_))))
 ·
  have h1r := h1
  try simp only [nq, nr] at h1
  refine qqg (qqd (qqh (rs (om rfl (oa rfl (on (rs (om rfl (om rfl (om rfl (qqa (qq5 qz9 rfl rfl rfl (qqj (by omega)) rfl) (qqa (qjq (ys := [.sl _, .p _]) qj5 rfl (qqj (by omega)) rfl (Nat.le_refl _)) ?_))))))))))))
  refine qq4 (j_callF0 (v := .p _) (hp1 := []) [] false [] rfl hE (hF (l.getD k default) (qzw (by omega))) ⟨.inl ⟨rfl, rfl⟩, trivial⟩ trivial rfl rfl (fun h => by cases h) rfl (fun _ h => by cases h) (.inl rfl) rfl rfl) ?_
  refine on (ac rfl (fun h2 => ?_) fun h2 => ?_)
  ·
   have h2r := h2
   try simp only [nq, nr] at h2
   refine rs (om rfl (oa rfl (on (qql ?_))))
   exact qjh rfl ⟨qz7 (by rw [hpre.2, idxF_hit (d := default) (by omega) (by assumption)]), rfl, rfl⟩
  have h2r := h2
  try simp only [nq, nr] at h2
  refine qqg (ar (qqa (qje rfl rfl (by omega) (by omega)) (om rfl (on ?_))))
  exact ⟨k + 1, ⟨by omega, by rw [hpre.2, idxF_skip (d := default) (by omega) (by assumption)]⟩, ⟨⟨rfl, rfl⟩, ⟨rfl, trivial⟩, trivial, ⟨rfl, rfl⟩, ⟨rfl, rfl⟩⟩, (by omega)⟩
 have h1r := h1
 try simp only [nq, nr] at h1
 refine qjf (rs (oa rfl (on (qql ?_))))
 exact qjh rfl ⟨qz7 (by rw [hpre.2, idxF_end (by omega)]), rfl, rfl⟩
theorem f_ctf_Con_0 (F : Nat) (l : List (Con)) (p : Con → Bool) (hE : Ent' Try.prog F) (hF : ∀ a ∈ l, Fn Try.prog F [.agg [.sl (a.1.map dT), .p (.int .i64 a.2)]] [] (fun r i n => r = .p (.bool (p a)) ∧ i = [] ∧ n = [])) : Fn Try.prog 79 [.sl (l.map dC), .fn F []] [] (fun rr ii nn => rr = .p (.bool (l.any p)) ∧ ii = [] ∧ nn = []) := by
 refine qjj Try.func79 rfl (nb rfl) fun w X g => ?_
 show AWp _ _ _ ⟨[(0, .sl (l.map dC)), (1, .fn F [])], []⟩
 refine rs (oa rfl (on (rs (om rfl (om rfl ?_)))))
 refine qq4 (qqp (v := .p _) (hp1 := []) [] false [] ent87 (f_idx_Con_0  F l p hE hF) ⟨.inl ⟨rfl, rfl⟩, .inl ⟨rfl, rfl⟩, trivial⟩ trivial rfl rfl (fun h => by cases h) rfl (fun _ h => by cases h) (.inl rfl) rfl rfl) ?_
 refine qqa (j_ge rfl rfl) (oa rfl (on (qql ?_)))
 exact qjh rfl ⟨qja (idxF_any (Int.le_refl 0)), rfl, rfl⟩
end Go.Ab

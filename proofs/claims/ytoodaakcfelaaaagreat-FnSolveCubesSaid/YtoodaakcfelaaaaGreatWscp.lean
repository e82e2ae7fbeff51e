/- Walks. -/
import Derived.Test.YtoodaakcfelaaaaGreatBase
import Derived.Test.YtoodaakcfelaaaaGreatPf3
import Derived.Test.YtoodaakcfelaaaaGreatWsrup
import Derived.Test.YtoodaakcfelaaaaGreatWsenum
import Derived.Test.YtoodaakcfelaaaaGreatWsexcl2
import Derived.Test.YtoodaakcfelaaaaGreatWsprob
import Derived.Test.YtoodaakcfelaaaaGreatDeep2
import Derived.Test.YtoodaakcfelaaaaGreatFlt2
import Derived.Test.YtoodaakcfelaaaaGreatSimp
import Derived.Test.YtoodaakcfelaaaaGreatWscons
import Derived.Test.YtoodaakcfelaaaaGreatVals
import Derived.Test.YtoodaakcfelaaaaGreatWsfix
import Derived.Test.YtoodaakcfelaaaaGreatWsfun
import Derived.Test.YtoodaakcfelaaaaGreatWsmul
import Derived.Test.YtoodaakcfelaaaaGreatWsprobd
import Derived.Test.YtoodaakcfelaaaaGreatWsclau
import Derived.Test.YtoodaakcfelaaaaGreatWsdrawc
namespace Go.Ab
open Go.Proofs
set_option maxRecDepth 100000
set_option maxHeartbeats 8000000
set_option linter.unusedSimpArgs false
set_option linter.unusedVariables false
theorem f_l5Fuel (b : List Int) (p : Nat) (hb : okB b) (hp : p ≤ 1099509000000) : Fn Tryz.prog 72 [.ptr 0 0 0] [.box 151 [.sl (b.map dU), .p (.int .i64 ((p : Nat) : Int))]] (fun rr ii nn => rr = .p (.int .i64 (ofV b p ([200, 100, 300, 2, 5, 0, 1, -1, 2001] : List Int))) ∧ ii = [.box 151 [.sl (b.map dU), .p (.int .i64 (((p + 1) : Nat) : Int))]] ∧ nn = []) := by
 refine qjl Tryz.func72 rfl (nb rfl) fun w X g => ?_
 show AWp _ _ _ ⟨[(0, .ptr 0 0 0)], [(0, some (0, .box 151 [.sl (b.map dU), .p (.int .i64 ((p : Nat) : Int))]))]⟩
 refine rs (oa rfl (on (rs (om rfl (qqv (fun ver => qqh (parts := [(0, .const (.int .i64 200)), (1, .const (.int .i64 100)), (2, .const (.int .i64 300)), (3, .const (.int .i64 2)), (4, .const (.int .i64 5)), (5, .const (.int .i64 0)), (6, .const (.int .i64 1)), (7, .const (.int .i64 (-1))), (8, .const (.int .i64 2001))]) (es := [[_], [_], [_], [_], [_], [_], [_], [_], [_]]) qjb elt3 rfl rfl (by decide) (by decide) rfl rfl (by simp) rfl) fun v4x1 => ?_)))))
 refine qq0 (qqn (v := .p _) (hp1 := [(0, some (0, .box 151 [.sl _, .p _])), (4, some (v4x1, .row 3 1 _))]) [(0, 0), (4, v4x1)] false [0, 4] ent130 (f_num b (p) [200, 100, 300, 2, 5, 0, 1, -1, 2001] hb (by omega) (by decide) (by decide)) ⟨.inl ⟨rfl, rfl⟩, .inl ⟨rfl, rfl⟩, trivial⟩ ⟨⟨rfl, rfl⟩, ⟨rfl, rfl⟩, trivial⟩ rfl rfl (fun h => by cases h) rfl (List.all_eq_true.1 rfl) (.inl rfl) rfl rfl) ?_
 refine oa rfl (on (qqx ?_))
 exact ⟨[.p _], .p _, [.box 151 [.sl _, .p _]], [], [], ⟨rfl, trivial⟩, rfl, rfl, ⟨⟨rfl, rfl⟩, trivial⟩, rfl, rfl, ⟨rfl, rfl, rfl⟩⟩
end Go.Ab

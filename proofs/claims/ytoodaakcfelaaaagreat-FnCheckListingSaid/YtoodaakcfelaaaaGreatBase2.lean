/- More facts on the types of the program. -/
import Derived.Test.YtoodaakcfelaaaaGreatBase
import Derived.Test.YtoodaakcfelaaaaGreatProg
import Derived.KernelRfl
namespace Go.Ab
open Go.Proofs
theorem agg142 : AggT Tryz.prog 142 2 := ⟨_, Tryz.underlying142, rfl, by kernel_rfl⟩
theorem elt142 : ElT Tryz.prog 142 2 48 (.agg #[.slice none 0 0, .slice none 0 0]) := by unfold ElT; kernel_rfl
theorem ent11 : Ent' Tryz.prog 11 := ⟨_, Tryz.func11, by kernel_rfl, by kernel_rfl⟩
theorem ent120 : Ent' Tryz.prog 120 := ⟨_, Tryz.func120, by kernel_rfl, by kernel_rfl⟩
theorem ent121 : Ent' Tryz.prog 121 := ⟨_, Tryz.func121, by kernel_rfl, by kernel_rfl⟩
theorem ent122 : Ent' Tryz.prog 122 := ⟨_, Tryz.func122, by kernel_rfl, by kernel_rfl⟩
theorem ent16 : Ent' Tryz.prog 16 := ⟨_, Tryz.func16, by kernel_rfl, by kernel_rfl⟩
theorem ent173 : Ent' Tryz.prog 173 := ⟨_, Tryz.func173, by kernel_rfl, by kernel_rfl⟩
theorem ent174 : Ent' Tryz.prog 174 := ⟨_, Tryz.func174, by kernel_rfl, by kernel_rfl⟩
theorem ent175 : Ent' Tryz.prog 175 := ⟨_, Tryz.func175, by kernel_rfl, by kernel_rfl⟩
theorem ent176 : Ent' Tryz.prog 176 := ⟨_, Tryz.func176, by kernel_rfl, by kernel_rfl⟩
theorem ent21 : Ent' Tryz.prog 21 := ⟨_, Tryz.func21, by kernel_rfl, by kernel_rfl⟩
theorem ent219 : Ent' Tryz.prog 219 := ⟨_, Tryz.func219, by kernel_rfl, by kernel_rfl⟩
theorem ent22 : Ent' Tryz.prog 22 := ⟨_, Tryz.func22, by kernel_rfl, by kernel_rfl⟩
theorem ent220 : Ent' Tryz.prog 220 := ⟨_, Tryz.func220, by kernel_rfl, by kernel_rfl⟩
theorem ent221 : Ent' Tryz.prog 221 := ⟨_, Tryz.func221, by kernel_rfl, by kernel_rfl⟩
theorem ent222 : Ent' Tryz.prog 222 := ⟨_, Tryz.func222, by kernel_rfl, by kernel_rfl⟩
theorem ent223 : Ent' Tryz.prog 223 := ⟨_, Tryz.func223, by kernel_rfl, by kernel_rfl⟩
theorem ent224 : Ent' Tryz.prog 224 := ⟨_, Tryz.func224, by kernel_rfl, by kernel_rfl⟩
theorem ent225 : Ent' Tryz.prog 225 := ⟨_, Tryz.func225, by kernel_rfl, by kernel_rfl⟩
theorem ent226 : Ent' Tryz.prog 226 := ⟨_, Tryz.func226, by kernel_rfl, by kernel_rfl⟩
theorem ent23 : Ent' Tryz.prog 23 := ⟨_, Tryz.func23, by kernel_rfl, by kernel_rfl⟩
theorem ent24 : Ent' Tryz.prog 24 := ⟨_, Tryz.func24, by kernel_rfl, by kernel_rfl⟩
theorem ent27 : Ent' Tryz.prog 27 := ⟨_, Tryz.func27, by kernel_rfl, by kernel_rfl⟩
theorem ent35 : Ent' Tryz.prog 35 := ⟨_, Tryz.func35, by kernel_rfl, by kernel_rfl⟩
theorem ent50 : Ent' Tryz.prog 50 := ⟨_, Tryz.func50, by kernel_rfl, by kernel_rfl⟩
theorem ent52 : Ent' Tryz.prog 52 := ⟨_, Tryz.func52, by kernel_rfl, by kernel_rfl⟩
theorem ent68 : Ent' Tryz.prog 68 := ⟨_, Tryz.func68, by kernel_rfl, by kernel_rfl⟩
theorem fld142f0 : FldT Tryz.prog 142 0 0 := ⟨_, _, 0, Tryz.underlying142, rfl, rfl, by kernel_rfl⟩
theorem fld142f1 : FldT Tryz.prog 142 1 1 := ⟨_, _, 0, Tryz.underlying142, rfl, rfl, by kernel_rfl⟩
theorem str142 : StrT Tryz.prog 142 [(0, 1), (1, 1)] := ⟨_, Tryz.underlying142, by kernel_rfl⟩
end Go.Ab

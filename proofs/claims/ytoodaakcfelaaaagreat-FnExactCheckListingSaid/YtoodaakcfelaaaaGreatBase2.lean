/- More facts on the types of the program. -/
import Derived.Test.YtoodaakcfelaaaaGreatBase
import Derived.Test.YtoodaakcfelaaaaGreatProg
import Derived.KernelRfl
namespace Go.Ab
open Go.Proofs
theorem agg142 : AggT Tryz.prog 142 2 := ⟨_, Tryz.underlying142, rfl, by kernel_rfl⟩
theorem agg82 : AggT Tryz.prog 82 5 := ⟨_, Tryz.underlying82, rfl, by kernel_rfl⟩
theorem elt142 : ElT Tryz.prog 142 2 48 (.agg #[.slice none 0 0, .slice none 0 0]) := by unfold ElT; kernel_rfl
theorem ent10 : Ent' Tryz.prog 10 := ⟨_, Tryz.func10, by kernel_rfl, by kernel_rfl⟩
theorem ent11 : Ent' Tryz.prog 11 := ⟨_, Tryz.func11, by kernel_rfl, by kernel_rfl⟩
theorem ent12 : Ent' Tryz.prog 12 := ⟨_, Tryz.func12, by kernel_rfl, by kernel_rfl⟩
theorem ent120 : Ent' Tryz.prog 120 := ⟨_, Tryz.func120, by kernel_rfl, by kernel_rfl⟩
theorem ent121 : Ent' Tryz.prog 121 := ⟨_, Tryz.func121, by kernel_rfl, by kernel_rfl⟩
theorem ent122 : Ent' Tryz.prog 122 := ⟨_, Tryz.func122, by kernel_rfl, by kernel_rfl⟩
theorem ent13 : Ent' Tryz.prog 13 := ⟨_, Tryz.func13, by kernel_rfl, by kernel_rfl⟩
theorem ent14 : Ent' Tryz.prog 14 := ⟨_, Tryz.func14, by kernel_rfl, by kernel_rfl⟩
theorem ent15 : Ent' Tryz.prog 15 := ⟨_, Tryz.func15, by kernel_rfl, by kernel_rfl⟩
theorem ent16 : Ent' Tryz.prog 16 := ⟨_, Tryz.func16, by kernel_rfl, by kernel_rfl⟩
theorem ent17 : Ent' Tryz.prog 17 := ⟨_, Tryz.func17, by kernel_rfl, by kernel_rfl⟩
theorem ent173 : Ent' Tryz.prog 173 := ⟨_, Tryz.func173, by kernel_rfl, by kernel_rfl⟩
theorem ent174 : Ent' Tryz.prog 174 := ⟨_, Tryz.func174, by kernel_rfl, by kernel_rfl⟩
theorem ent175 : Ent' Tryz.prog 175 := ⟨_, Tryz.func175, by kernel_rfl, by kernel_rfl⟩
theorem ent176 : Ent' Tryz.prog 176 := ⟨_, Tryz.func176, by kernel_rfl, by kernel_rfl⟩
theorem ent18 : Ent' Tryz.prog 18 := ⟨_, Tryz.func18, by kernel_rfl, by kernel_rfl⟩
theorem ent19 : Ent' Tryz.prog 19 := ⟨_, Tryz.func19, by kernel_rfl, by kernel_rfl⟩
theorem ent20 : Ent' Tryz.prog 20 := ⟨_, Tryz.func20, by kernel_rfl, by kernel_rfl⟩
theorem ent219 : Ent' Tryz.prog 219 := ⟨_, Tryz.func219, by kernel_rfl, by kernel_rfl⟩
theorem ent220 : Ent' Tryz.prog 220 := ⟨_, Tryz.func220, by kernel_rfl, by kernel_rfl⟩
theorem ent221 : Ent' Tryz.prog 221 := ⟨_, Tryz.func221, by kernel_rfl, by kernel_rfl⟩
theorem ent222 : Ent' Tryz.prog 222 := ⟨_, Tryz.func222, by kernel_rfl, by kernel_rfl⟩
theorem ent223 : Ent' Tryz.prog 223 := ⟨_, Tryz.func223, by kernel_rfl, by kernel_rfl⟩
theorem ent224 : Ent' Tryz.prog 224 := ⟨_, Tryz.func224, by kernel_rfl, by kernel_rfl⟩
theorem ent225 : Ent' Tryz.prog 225 := ⟨_, Tryz.func225, by kernel_rfl, by kernel_rfl⟩
theorem ent226 : Ent' Tryz.prog 226 := ⟨_, Tryz.func226, by kernel_rfl, by kernel_rfl⟩
theorem ent35 : Ent' Tryz.prog 35 := ⟨_, Tryz.func35, by kernel_rfl, by kernel_rfl⟩
theorem ent46 : Ent' Tryz.prog 46 := ⟨_, Tryz.func46, by kernel_rfl, by kernel_rfl⟩
theorem ent47 : Ent' Tryz.prog 47 := ⟨_, Tryz.func47, by kernel_rfl, by kernel_rfl⟩
theorem ent50 : Ent' Tryz.prog 50 := ⟨_, Tryz.func50, by kernel_rfl, by kernel_rfl⟩
theorem ent52 : Ent' Tryz.prog 52 := ⟨_, Tryz.func52, by kernel_rfl, by kernel_rfl⟩
theorem ent54 : Ent' Tryz.prog 54 := ⟨_, Tryz.func54, by kernel_rfl, by kernel_rfl⟩
theorem ent55 : Ent' Tryz.prog 55 := ⟨_, Tryz.func55, by kernel_rfl, by kernel_rfl⟩
theorem ent62 : Ent' Tryz.prog 62 := ⟨_, Tryz.func62, by kernel_rfl, by kernel_rfl⟩
theorem ent8 : Ent' Tryz.prog 8 := ⟨_, Tryz.func8, by kernel_rfl, by kernel_rfl⟩
theorem ent9 : Ent' Tryz.prog 9 := ⟨_, Tryz.func9, by kernel_rfl, by kernel_rfl⟩
theorem fld142f0 : FldT Tryz.prog 142 0 0 := ⟨_, _, 0, Tryz.underlying142, rfl, rfl, by kernel_rfl⟩
theorem fld142f1 : FldT Tryz.prog 142 1 1 := ⟨_, _, 0, Tryz.underlying142, rfl, rfl, by kernel_rfl⟩
theorem fld82f0 : FldT Tryz.prog 82 0 0 := ⟨_, _, 0, Tryz.underlying82, rfl, rfl, by kernel_rfl⟩
theorem fld82f1 : FldT Tryz.prog 82 1 1 := ⟨_, _, 0, Tryz.underlying82, rfl, rfl, by kernel_rfl⟩
theorem fld82f2 : FldT Tryz.prog 82 2 2 := ⟨_, _, 0, Tryz.underlying82, rfl, rfl, by kernel_rfl⟩
theorem fld82f3 : FldT Tryz.prog 82 3 3 := ⟨_, _, 1, Tryz.underlying82, rfl, rfl, by kernel_rfl⟩
theorem slt25 : SlT Tryz.prog 25 82 5 := ⟨Tryz.underlying25, by kernel_rfl⟩
theorem str142 : StrT Tryz.prog 142 [(0, 1), (1, 1)] := ⟨_, Tryz.underlying142, by kernel_rfl⟩
end Go.Ab

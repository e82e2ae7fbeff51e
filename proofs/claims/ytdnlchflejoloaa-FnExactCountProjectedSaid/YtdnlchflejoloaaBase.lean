/- Facts on the types of the program. -/
import Derived.Test.YtdnlchflejoloaaAb16
import Derived.Test.YtdnlchflejoloaaProg
import Derived.KernelRfl
namespace Go.Ab
open Go.Proofs
theorem agg152 : AggT Try.prog 152 2 := ⟨_, Try.underlying152, rfl, by kernel_rfl⟩
theorem agg25 : AggT Try.prog 25 2 := ⟨_, Try.underlying25, rfl, by kernel_rfl⟩
theorem agg45 : AggT Try.prog 45 2 := ⟨_, Try.underlying45, rfl, by kernel_rfl⟩
theorem agg99 : AggT Try.prog 99 2 := ⟨_, Try.underlying99, rfl, by kernel_rfl⟩
theorem elt25 : ElT Try.prog 25 2 32 (.agg #[.slice none 0 0, .int .i64 0]) := by unfold ElT; kernel_rfl
theorem elt3 : ElT Try.prog 3 1 8 (.int .i64 0) := by unfold ElT; kernel_rfl
theorem elt4 : ElT Try.prog 4 1 1 (.bool false) := by unfold ElT; kernel_rfl
theorem elt99 : ElT Try.prog 99 2 16 (.agg #[.int .i64 0, .int .i64 0]) := by unfold ElT; kernel_rfl
theorem ent103 : Ent' Try.prog 103 := ⟨_, Try.func103, by kernel_rfl, by kernel_rfl⟩
theorem ent104 : Ent' Try.prog 104 := ⟨_, Try.func104, by kernel_rfl, by kernel_rfl⟩
theorem ent105 : Ent' Try.prog 105 := ⟨_, Try.func105, by kernel_rfl, by kernel_rfl⟩
theorem ent106 : Ent' Try.prog 106 := ⟨_, Try.func106, by kernel_rfl, by kernel_rfl⟩
theorem ent107 : Ent' Try.prog 107 := ⟨_, Try.func107, by kernel_rfl, by kernel_rfl⟩
theorem ent108 : Ent' Try.prog 108 := ⟨_, Try.func108, by kernel_rfl, by kernel_rfl⟩
theorem ent110 : Ent' Try.prog 110 := ⟨_, Try.func110, by kernel_rfl, by kernel_rfl⟩
theorem ent116 : Ent' Try.prog 116 := ⟨_, Try.func116, by kernel_rfl, by kernel_rfl⟩
theorem ent143 : Ent' Try.prog 143 := ⟨_, Try.func143, by kernel_rfl, by kernel_rfl⟩
theorem ent144 : Ent' Try.prog 144 := ⟨_, Try.func144, by kernel_rfl, by kernel_rfl⟩
theorem ent149 : Ent' Try.prog 149 := ⟨_, Try.func149, by kernel_rfl, by kernel_rfl⟩
theorem ent150 : Ent' Try.prog 150 := ⟨_, Try.func150, by kernel_rfl, by kernel_rfl⟩
theorem ent151 : Ent' Try.prog 151 := ⟨_, Try.func151, by kernel_rfl, by kernel_rfl⟩
theorem ent163 : Ent' Try.prog 163 := ⟨_, Try.func163, by kernel_rfl, by kernel_rfl⟩
theorem ent164 : Ent' Try.prog 164 := ⟨_, Try.func164, by kernel_rfl, by kernel_rfl⟩
theorem ent165 : Ent' Try.prog 165 := ⟨_, Try.func165, by kernel_rfl, by kernel_rfl⟩
theorem ent170 : Ent' Try.prog 170 := ⟨_, Try.func170, by kernel_rfl, by kernel_rfl⟩
theorem ent193 : Ent' Try.prog 193 := ⟨_, Try.func193, by kernel_rfl, by kernel_rfl⟩
theorem ent194 : Ent' Try.prog 194 := ⟨_, Try.func194, by kernel_rfl, by kernel_rfl⟩
theorem ent21 : Ent' Try.prog 21 := ⟨_, Try.func21, by kernel_rfl, by kernel_rfl⟩
theorem ent23 : Ent' Try.prog 23 := ⟨_, Try.func23, by kernel_rfl, by kernel_rfl⟩
theorem ent25 : Ent' Try.prog 25 := ⟨_, Try.func25, by kernel_rfl, by kernel_rfl⟩
theorem ent26 : Ent' Try.prog 26 := ⟨_, Try.func26, by kernel_rfl, by kernel_rfl⟩
theorem ent30 : Ent' Try.prog 30 := ⟨_, Try.func30, by kernel_rfl, by kernel_rfl⟩
theorem ent31 : Ent' Try.prog 31 := ⟨_, Try.func31, by kernel_rfl, by kernel_rfl⟩
theorem ent32 : Ent' Try.prog 32 := ⟨_, Try.func32, by kernel_rfl, by kernel_rfl⟩
theorem ent38 : Ent' Try.prog 38 := ⟨_, Try.func38, by kernel_rfl, by kernel_rfl⟩
theorem ent44 : Ent' Try.prog 44 := ⟨_, Try.func44, by kernel_rfl, by kernel_rfl⟩
theorem ent45 : Ent' Try.prog 45 := ⟨_, Try.func45, by kernel_rfl, by kernel_rfl⟩
theorem ent47 : Ent' Try.prog 47 := ⟨_, Try.func47, by kernel_rfl, by kernel_rfl⟩
theorem ent73 : Ent' Try.prog 73 := ⟨_, Try.func73, by kernel_rfl, by kernel_rfl⟩
theorem ent75 : Ent' Try.prog 75 := ⟨_, Try.func75, by kernel_rfl, by kernel_rfl⟩
theorem ent80 : Ent' Try.prog 80 := ⟨_, Try.func80, by kernel_rfl, by kernel_rfl⟩
theorem ent83 : Ent' Try.prog 83 := ⟨_, Try.func83, by kernel_rfl, by kernel_rfl⟩
theorem ent86 : Ent' Try.prog 86 := ⟨_, Try.func86, by kernel_rfl, by kernel_rfl⟩
theorem ent87 : Ent' Try.prog 87 := ⟨_, Try.func87, by kernel_rfl, by kernel_rfl⟩
theorem ent88 : Ent' Try.prog 88 := ⟨_, Try.func88, by kernel_rfl, by kernel_rfl⟩
theorem ent90 : Ent' Try.prog 90 := ⟨_, Try.func90, by kernel_rfl, by kernel_rfl⟩
theorem ent92 : Ent' Try.prog 92 := ⟨_, Try.func92, by kernel_rfl, by kernel_rfl⟩
theorem fld152f0 : FldT Try.prog 152 0 0 := ⟨_, _, 0, Try.underlying152, rfl, rfl, by kernel_rfl⟩
theorem fld152f1 : FldT Try.prog 152 1 1 := ⟨_, _, 0, Try.underlying152, rfl, rfl, by kernel_rfl⟩
theorem fld25f0 : FldT Try.prog 25 0 0 := ⟨_, _, 0, Try.underlying25, rfl, rfl, by kernel_rfl⟩
theorem fld25f1 : FldT Try.prog 25 1 1 := ⟨_, _, 0, Try.underlying25, rfl, rfl, by kernel_rfl⟩
theorem fld45f0 : FldT Try.prog 45 0 0 := ⟨_, _, 0, Try.underlying45, rfl, rfl, by kernel_rfl⟩
theorem fld45f1 : FldT Try.prog 45 1 1 := ⟨_, _, 0, Try.underlying45, rfl, rfl, by kernel_rfl⟩
theorem fld99f0 : FldT Try.prog 99 0 0 := ⟨_, _, 0, Try.underlying99, rfl, rfl, by kernel_rfl⟩
theorem fld99f1 : FldT Try.prog 99 1 1 := ⟨_, _, 0, Try.underlying99, rfl, rfl, by kernel_rfl⟩
theorem leaf23 : LeafT Try.prog 23 := ⟨_, Try.underlying23, rfl, by kernel_rfl⟩
theorem leaf3 : LeafT Try.prog 3 := ⟨_, Try.underlying3, rfl, by kernel_rfl⟩
theorem leaf4 : LeafT Try.prog 4 := ⟨_, Try.underlying4, rfl, by kernel_rfl⟩
theorem leaf43 : LeafT Try.prog 43 := ⟨_, Try.underlying43, rfl, by kernel_rfl⟩
theorem leaf71 : LeafT Try.prog 71 := ⟨_, Try.underlying71, rfl, by kernel_rfl⟩
theorem mixed : Try.prog.follows .mixedOrders = true := by kernel_rfl
theorem slt23 : SlT Try.prog 23 99 2 := ⟨Try.underlying23, by kernel_rfl⟩
theorem slt27 : SlT Try.prog 27 25 2 := ⟨Try.underlying27, by kernel_rfl⟩
theorem slt34 : SlT Try.prog 34 45 2 := ⟨Try.underlying34, by kernel_rfl⟩
theorem slt36 : SlT Try.prog 36 3 1 := ⟨Try.underlying36, by kernel_rfl⟩
theorem slt43 : SlT Try.prog 43 152 2 := ⟨Try.underlying43, by kernel_rfl⟩
theorem slt71 : SlT Try.prog 71 4 1 := ⟨Try.underlying71, by kernel_rfl⟩
end Go.Ab

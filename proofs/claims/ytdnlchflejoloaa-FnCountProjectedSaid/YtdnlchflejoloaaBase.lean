/- Facts on the types of the program. -/
import Derived.Test.YtdnlchflejoloaaAb16
import Derived.Test.YtdnlchflejoloaaProg
import Derived.KernelRfl
namespace Go.Ab
open Go.Proofs
theorem agg25 : AggT Try.prog 25 2 := ⟨_, Try.underlying25, rfl, by kernel_rfl⟩
theorem agg99 : AggT Try.prog 99 2 := ⟨_, Try.underlying99, rfl, by kernel_rfl⟩
theorem elt144 : ElT Try.prog 144 2 32 (.agg #[.slice none 0 0, .int .i64 0]) := by unfold ElT; kernel_rfl
theorem elt25 : ElT Try.prog 25 2 32 (.agg #[.slice none 0 0, .int .i64 0]) := by unfold ElT; kernel_rfl
theorem elt3 : ElT Try.prog 3 1 8 (.int .i64 0) := by unfold ElT; kernel_rfl
theorem elt4 : ElT Try.prog 4 1 1 (.bool false) := by unfold ElT; kernel_rfl
theorem elt99 : ElT Try.prog 99 2 16 (.agg #[.int .i64 0, .int .i64 0]) := by unfold ElT; kernel_rfl
theorem ent103 : Ent' Try.prog 103 := ⟨_, Try.func103, by kernel_rfl, by kernel_rfl⟩
theorem ent104 : Ent' Try.prog 104 := ⟨_, Try.func104, by kernel_rfl, by kernel_rfl⟩
theorem ent105 : Ent' Try.prog 105 := ⟨_, Try.func105, by kernel_rfl, by kernel_rfl⟩
theorem ent106 : Ent' Try.prog 106 := ⟨_, Try.func106, by kernel_rfl, by kernel_rfl⟩
theorem ent107 : Ent' Try.prog 107 := ⟨_, Try.func107, by kernel_rfl, by kernel_rfl⟩
theorem ent108 : Ent' Try.prog 108 := ⟨_, Try.func108, by kernel_rfl, by kernel_rfl⟩
theorem ent109 : Ent' Try.prog 109 := ⟨_, Try.func109, by kernel_rfl, by kernel_rfl⟩
theorem ent110 : Ent' Try.prog 110 := ⟨_, Try.func110, by kernel_rfl, by kernel_rfl⟩
theorem ent116 : Ent' Try.prog 116 := ⟨_, Try.func116, by kernel_rfl, by kernel_rfl⟩
theorem ent140 : Ent' Try.prog 140 := ⟨_, Try.func140, by kernel_rfl, by kernel_rfl⟩
theorem ent141 : Ent' Try.prog 141 := ⟨_, Try.func141, by kernel_rfl, by kernel_rfl⟩
theorem ent142 : Ent' Try.prog 142 := ⟨_, Try.func142, by kernel_rfl, by kernel_rfl⟩
theorem ent143 : Ent' Try.prog 143 := ⟨_, Try.func143, by kernel_rfl, by kernel_rfl⟩
theorem ent144 : Ent' Try.prog 144 := ⟨_, Try.func144, by kernel_rfl, by kernel_rfl⟩
theorem ent149 : Ent' Try.prog 149 := ⟨_, Try.func149, by kernel_rfl, by kernel_rfl⟩
theorem ent163 : Ent' Try.prog 163 := ⟨_, Try.func163, by kernel_rfl, by kernel_rfl⟩
theorem ent164 : Ent' Try.prog 164 := ⟨_, Try.func164, by kernel_rfl, by kernel_rfl⟩
theorem ent165 : Ent' Try.prog 165 := ⟨_, Try.func165, by kernel_rfl, by kernel_rfl⟩
theorem ent166 : Ent' Try.prog 166 := ⟨_, Try.func166, by kernel_rfl, by kernel_rfl⟩
theorem ent167 : Ent' Try.prog 167 := ⟨_, Try.func167, by kernel_rfl, by kernel_rfl⟩
theorem ent168 : Ent' Try.prog 168 := ⟨_, Try.func168, by kernel_rfl, by kernel_rfl⟩
theorem ent169 : Ent' Try.prog 169 := ⟨_, Try.func169, by kernel_rfl, by kernel_rfl⟩
theorem ent170 : Ent' Try.prog 170 := ⟨_, Try.func170, by kernel_rfl, by kernel_rfl⟩
theorem ent193 : Ent' Try.prog 193 := ⟨_, Try.func193, by kernel_rfl, by kernel_rfl⟩
theorem ent194 : Ent' Try.prog 194 := ⟨_, Try.func194, by kernel_rfl, by kernel_rfl⟩
theorem ent195 : Ent' Try.prog 195 := ⟨_, Try.func195, by kernel_rfl, by kernel_rfl⟩
theorem ent44 : Ent' Try.prog 44 := ⟨_, Try.func44, by kernel_rfl, by kernel_rfl⟩
theorem ent45 : Ent' Try.prog 45 := ⟨_, Try.func45, by kernel_rfl, by kernel_rfl⟩
theorem ent46 : Ent' Try.prog 46 := ⟨_, Try.func46, by kernel_rfl, by kernel_rfl⟩
theorem ent47 : Ent' Try.prog 47 := ⟨_, Try.func47, by kernel_rfl, by kernel_rfl⟩
theorem ent48 : Ent' Try.prog 48 := ⟨_, Try.func48, by kernel_rfl, by kernel_rfl⟩
theorem ent69 : Ent' Try.prog 69 := ⟨_, Try.func69, by kernel_rfl, by kernel_rfl⟩
theorem ent70 : Ent' Try.prog 70 := ⟨_, Try.func70, by kernel_rfl, by kernel_rfl⟩
theorem ent71 : Ent' Try.prog 71 := ⟨_, Try.func71, by kernel_rfl, by kernel_rfl⟩
theorem ent72 : Ent' Try.prog 72 := ⟨_, Try.func72, by kernel_rfl, by kernel_rfl⟩
theorem ent73 : Ent' Try.prog 73 := ⟨_, Try.func73, by kernel_rfl, by kernel_rfl⟩
theorem ent75 : Ent' Try.prog 75 := ⟨_, Try.func75, by kernel_rfl, by kernel_rfl⟩
theorem ent80 : Ent' Try.prog 80 := ⟨_, Try.func80, by kernel_rfl, by kernel_rfl⟩
theorem ent83 : Ent' Try.prog 83 := ⟨_, Try.func83, by kernel_rfl, by kernel_rfl⟩
theorem ent90 : Ent' Try.prog 90 := ⟨_, Try.func90, by kernel_rfl, by kernel_rfl⟩
theorem ent92 : Ent' Try.prog 92 := ⟨_, Try.func92, by kernel_rfl, by kernel_rfl⟩
theorem fld144f0 : FldT Try.prog 144 0 0 := ⟨_, _, 0, Try.underlying144, rfl, rfl, by kernel_rfl⟩
theorem fld144f1 : FldT Try.prog 144 1 1 := ⟨_, _, 0, Try.underlying144, rfl, rfl, by kernel_rfl⟩
theorem fld25f0 : FldT Try.prog 25 0 0 := ⟨_, _, 0, Try.underlying25, rfl, rfl, by kernel_rfl⟩
theorem fld25f1 : FldT Try.prog 25 1 1 := ⟨_, _, 0, Try.underlying25, rfl, rfl, by kernel_rfl⟩
theorem fld99f0 : FldT Try.prog 99 0 0 := ⟨_, _, 0, Try.underlying99, rfl, rfl, by kernel_rfl⟩
theorem fld99f1 : FldT Try.prog 99 1 1 := ⟨_, _, 0, Try.underlying99, rfl, rfl, by kernel_rfl⟩
theorem leaf22 : LeafT Try.prog 22 := ⟨_, Try.underlying22, rfl, by kernel_rfl⟩
theorem leaf23 : LeafT Try.prog 23 := ⟨_, Try.underlying23, rfl, by kernel_rfl⟩
theorem leaf3 : LeafT Try.prog 3 := ⟨_, Try.underlying3, rfl, by kernel_rfl⟩
theorem leaf4 : LeafT Try.prog 4 := ⟨_, Try.underlying4, rfl, by kernel_rfl⟩
theorem leaf5 : LeafT Try.prog 5 := ⟨_, Try.underlying5, rfl, by kernel_rfl⟩
theorem leaf71 : LeafT Try.prog 71 := ⟨_, Try.underlying71, rfl, by kernel_rfl⟩
theorem mixed : Try.prog.follows .mixedOrders = true := by kernel_rfl
theorem slt22 : SlT Try.prog 22 5 1 := ⟨Try.underlying22, by kernel_rfl⟩
theorem slt23 : SlT Try.prog 23 99 2 := ⟨Try.underlying23, by kernel_rfl⟩
theorem slt27 : SlT Try.prog 27 25 2 := ⟨Try.underlying27, by kernel_rfl⟩
theorem slt36 : SlT Try.prog 36 3 1 := ⟨Try.underlying36, by kernel_rfl⟩
theorem slt71 : SlT Try.prog 71 4 1 := ⟨Try.underlying71, by kernel_rfl⟩
theorem str144 : StrT Try.prog 144 [(0, 1), (1, 1)] := ⟨_, Try.underlying144, by kernel_rfl⟩
theorem str25 : StrT Try.prog 25 [(0, 1), (1, 1)] := ⟨_, Try.underlying25, by kernel_rfl⟩
theorem str99 : StrT Try.prog 99 [(0, 1), (1, 1)] := ⟨_, Try.underlying99, by kernel_rfl⟩
end Go.Ab

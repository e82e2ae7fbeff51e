/- Facts on the types of the program. -/
import Derived.Test.YtdnlchflejoloaaAb16
import Derived.Test.YtdnlchflejoloaaProg
import Derived.KernelRfl
namespace Go.Ab
open Go.Proofs
theorem agg25 : AggT Try.prog 25 2 := ⟨_, Try.underlying25, rfl, by kernel_rfl⟩
theorem agg99 : AggT Try.prog 99 2 := ⟨_, Try.underlying99, rfl, by kernel_rfl⟩
theorem elt144 : ElT Try.prog 144 2 32 (.agg #[.slice none 0 0, .int .i64 0]) := by unfold ElT; kernel_rfl
theorem elt25 : ElT Try.prog 25 2 32 (.agg #[.slice none 0 0, .int .i64 0]) := by unfold ElT; kernel_rfl
theorem elt3 : ElT Try.prog 3 1 8 (.int .i64 0) := by unfold ElT; kernel_rfl
theorem elt99 : ElT Try.prog 99 2 16 (.agg #[.int .i64 0, .int .i64 0]) := by unfold ElT; kernel_rfl
theorem ent102 : Ent' Try.prog 102 := ⟨_, Try.func102, by kernel_rfl, by kernel_rfl⟩
theorem ent110 : Ent' Try.prog 110 := ⟨_, Try.func110, by kernel_rfl, by kernel_rfl⟩
theorem ent116 : Ent' Try.prog 116 := ⟨_, Try.func116, by kernel_rfl, by kernel_rfl⟩
theorem ent140 : Ent' Try.prog 140 := ⟨_, Try.func140, by kernel_rfl, by kernel_rfl⟩
theorem ent141 : Ent' Try.prog 141 := ⟨_, Try.func141, by kernel_rfl, by kernel_rfl⟩
theorem ent142 : Ent' Try.prog 142 := ⟨_, Try.func142, by kernel_rfl, by kernel_rfl⟩
theorem ent143 : Ent' Try.prog 143 := ⟨_, Try.func143, by kernel_rfl, by kernel_rfl⟩
theorem ent144 : Ent' Try.prog 144 := ⟨_, Try.func144, by kernel_rfl, by kernel_rfl⟩
theorem ent145 : Ent' Try.prog 145 := ⟨_, Try.func145, by kernel_rfl, by kernel_rfl⟩
theorem ent146 : Ent' Try.prog 146 := ⟨_, Try.func146, by kernel_rfl, by kernel_rfl⟩
theorem ent147 : Ent' Try.prog 147 := ⟨_, Try.func147, by kernel_rfl, by kernel_rfl⟩
theorem ent148 : Ent' Try.prog 148 := ⟨_, Try.func148, by kernel_rfl, by kernel_rfl⟩
theorem ent149 : Ent' Try.prog 149 := ⟨_, Try.func149, by kernel_rfl, by kernel_rfl⟩
theorem ent15 : Ent' Try.prog 15 := ⟨_, Try.func15, by kernel_rfl, by kernel_rfl⟩
theorem ent152 : Ent' Try.prog 152 := ⟨_, Try.func152, by kernel_rfl, by kernel_rfl⟩
theorem ent16 : Ent' Try.prog 16 := ⟨_, Try.func16, by kernel_rfl, by kernel_rfl⟩
theorem ent160 : Ent' Try.prog 160 := ⟨_, Try.func160, by kernel_rfl, by kernel_rfl⟩
theorem ent161 : Ent' Try.prog 161 := ⟨_, Try.func161, by kernel_rfl, by kernel_rfl⟩
theorem ent162 : Ent' Try.prog 162 := ⟨_, Try.func162, by kernel_rfl, by kernel_rfl⟩
theorem ent17 : Ent' Try.prog 17 := ⟨_, Try.func17, by kernel_rfl, by kernel_rfl⟩
theorem ent170 : Ent' Try.prog 170 := ⟨_, Try.func170, by kernel_rfl, by kernel_rfl⟩
theorem ent18 : Ent' Try.prog 18 := ⟨_, Try.func18, by kernel_rfl, by kernel_rfl⟩
theorem ent19 : Ent' Try.prog 19 := ⟨_, Try.func19, by kernel_rfl, by kernel_rfl⟩
theorem ent20 : Ent' Try.prog 20 := ⟨_, Try.func20, by kernel_rfl, by kernel_rfl⟩
theorem ent47 : Ent' Try.prog 47 := ⟨_, Try.func47, by kernel_rfl, by kernel_rfl⟩
theorem ent69 : Ent' Try.prog 69 := ⟨_, Try.func69, by kernel_rfl, by kernel_rfl⟩
theorem ent70 : Ent' Try.prog 70 := ⟨_, Try.func70, by kernel_rfl, by kernel_rfl⟩
theorem ent71 : Ent' Try.prog 71 := ⟨_, Try.func71, by kernel_rfl, by kernel_rfl⟩
theorem ent72 : Ent' Try.prog 72 := ⟨_, Try.func72, by kernel_rfl, by kernel_rfl⟩
theorem ent73 : Ent' Try.prog 73 := ⟨_, Try.func73, by kernel_rfl, by kernel_rfl⟩
theorem ent74 : Ent' Try.prog 74 := ⟨_, Try.func74, by kernel_rfl, by kernel_rfl⟩
theorem ent75 : Ent' Try.prog 75 := ⟨_, Try.func75, by kernel_rfl, by kernel_rfl⟩
theorem ent76 : Ent' Try.prog 76 := ⟨_, Try.func76, by kernel_rfl, by kernel_rfl⟩
theorem ent77 : Ent' Try.prog 77 := ⟨_, Try.func77, by kernel_rfl, by kernel_rfl⟩
theorem ent78 : Ent' Try.prog 78 := ⟨_, Try.func78, by kernel_rfl, by kernel_rfl⟩
theorem ent79 : Ent' Try.prog 79 := ⟨_, Try.func79, by kernel_rfl, by kernel_rfl⟩
theorem ent83 : Ent' Try.prog 83 := ⟨_, Try.func83, by kernel_rfl, by kernel_rfl⟩
theorem ent90 : Ent' Try.prog 90 := ⟨_, Try.func90, by kernel_rfl, by kernel_rfl⟩
theorem ent92 : Ent' Try.prog 92 := ⟨_, Try.func92, by kernel_rfl, by kernel_rfl⟩
theorem eqt99 : EqT2 Try.prog 99 := ⟨_, _, _, _, Try.underlying99, by kernel_rfl, by kernel_rfl, by decide, by decide, rfl, rfl, Try.underlying3, Try.underlying3, ⟨_, Try.underlying3, rfl, by kernel_rfl⟩, ⟨_, Try.underlying3, rfl, by kernel_rfl⟩⟩
theorem fld144f0 : FldT Try.prog 144 0 0 := ⟨_, _, 0, Try.underlying144, rfl, rfl, by kernel_rfl⟩
theorem fld144f1 : FldT Try.prog 144 1 1 := ⟨_, _, 0, Try.underlying144, rfl, rfl, by kernel_rfl⟩
theorem fld25f0 : FldT Try.prog 25 0 0 := ⟨_, _, 0, Try.underlying25, rfl, rfl, by kernel_rfl⟩
theorem fld25f1 : FldT Try.prog 25 1 1 := ⟨_, _, 0, Try.underlying25, rfl, rfl, by kernel_rfl⟩
theorem fld99f0 : FldT Try.prog 99 0 0 := ⟨_, _, 0, Try.underlying99, rfl, rfl, by kernel_rfl⟩
theorem fld99f1 : FldT Try.prog 99 1 1 := ⟨_, _, 0, Try.underlying99, rfl, rfl, by kernel_rfl⟩
theorem leaf22 : LeafT Try.prog 22 := ⟨_, Try.underlying22, rfl, by kernel_rfl⟩
theorem leaf23 : LeafT Try.prog 23 := ⟨_, Try.underlying23, rfl, by kernel_rfl⟩
theorem leaf3 : LeafT Try.prog 3 := ⟨_, Try.underlying3, rfl, by kernel_rfl⟩
theorem leaf5 : LeafT Try.prog 5 := ⟨_, Try.underlying5, rfl, by kernel_rfl⟩
theorem mixed : Try.prog.follows .mixedOrders = true := by kernel_rfl
theorem slt22 : SlT Try.prog 22 5 1 := ⟨Try.underlying22, by kernel_rfl⟩
theorem slt23 : SlT Try.prog 23 99 2 := ⟨Try.underlying23, by kernel_rfl⟩
theorem slt27 : SlT Try.prog 27 25 2 := ⟨Try.underlying27, by kernel_rfl⟩
theorem slt36 : SlT Try.prog 36 3 1 := ⟨Try.underlying36, by kernel_rfl⟩
theorem str144 : StrT Try.prog 144 [(0, 1), (1, 1)] := ⟨_, Try.underlying144, by kernel_rfl⟩
theorem str25 : StrT Try.prog 25 [(0, 1), (1, 1)] := ⟨_, Try.underlying25, by kernel_rfl⟩
theorem str99 : StrT Try.prog 99 [(0, 1), (1, 1)] := ⟨_, Try.underlying99, by kernel_rfl⟩
end Go.Ab

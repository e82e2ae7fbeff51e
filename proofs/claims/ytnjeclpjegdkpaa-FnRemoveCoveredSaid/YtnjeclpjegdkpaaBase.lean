/- Facts on the types of the program. -/
import Derived.Test.YtnjeclpjegdkpaaAb13
import Derived.Test.YtnjeclpjegdkpaaProg
import Derived.KernelRfl
namespace Go.Ab
open Go.Proofs
theorem agg56 : AggT Try.prog 56 2 := ⟨_, Try.underlying56, rfl, by kernel_rfl⟩
theorem agg59 : AggT Try.prog 59 2 := ⟨_, Try.underlying59, rfl, by kernel_rfl⟩
theorem elt118 : ElT Try.prog 118 2 32 (.agg #[.slice none 0 0, .int .i64 0]) := by unfold ElT; kernel_rfl
theorem elt3 : ElT Try.prog 3 1 8 (.int .i64 0) := by unfold ElT; kernel_rfl
theorem elt4 : ElT Try.prog 4 1 1 (.bool false) := by unfold ElT; kernel_rfl
theorem elt56 : ElT Try.prog 56 2 16 (.agg #[.int .i64 0, .int .i64 0]) := by unfold ElT; kernel_rfl
theorem elt59 : ElT Try.prog 59 2 32 (.agg #[.slice none 0 0, .int .i64 0]) := by unfold ElT; kernel_rfl
theorem ent100 : Ent' Try.prog 100 := ⟨_, Try.func100, by kernel_rfl, by kernel_rfl⟩
theorem ent104 : Ent' Try.prog 104 := ⟨_, Try.func104, by kernel_rfl, by kernel_rfl⟩
theorem ent106 : Ent' Try.prog 106 := ⟨_, Try.func106, by kernel_rfl, by kernel_rfl⟩
theorem ent107 : Ent' Try.prog 107 := ⟨_, Try.func107, by kernel_rfl, by kernel_rfl⟩
theorem ent110 : Ent' Try.prog 110 := ⟨_, Try.func110, by kernel_rfl, by kernel_rfl⟩
theorem ent116 : Ent' Try.prog 116 := ⟨_, Try.func116, by kernel_rfl, by kernel_rfl⟩
theorem ent117 : Ent' Try.prog 117 := ⟨_, Try.func117, by kernel_rfl, by kernel_rfl⟩
theorem ent119 : Ent' Try.prog 119 := ⟨_, Try.func119, by kernel_rfl, by kernel_rfl⟩
theorem ent120 : Ent' Try.prog 120 := ⟨_, Try.func120, by kernel_rfl, by kernel_rfl⟩
theorem ent127 : Ent' Try.prog 127 := ⟨_, Try.func127, by kernel_rfl, by kernel_rfl⟩
theorem ent128 : Ent' Try.prog 128 := ⟨_, Try.func128, by kernel_rfl, by kernel_rfl⟩
theorem ent129 : Ent' Try.prog 129 := ⟨_, Try.func129, by kernel_rfl, by kernel_rfl⟩
theorem ent130 : Ent' Try.prog 130 := ⟨_, Try.func130, by kernel_rfl, by kernel_rfl⟩
theorem ent131 : Ent' Try.prog 131 := ⟨_, Try.func131, by kernel_rfl, by kernel_rfl⟩
theorem ent135 : Ent' Try.prog 135 := ⟨_, Try.func135, by kernel_rfl, by kernel_rfl⟩
theorem ent136 : Ent' Try.prog 136 := ⟨_, Try.func136, by kernel_rfl, by kernel_rfl⟩
theorem ent148 : Ent' Try.prog 148 := ⟨_, Try.func148, by kernel_rfl, by kernel_rfl⟩
theorem ent152 : Ent' Try.prog 152 := ⟨_, Try.func152, by kernel_rfl, by kernel_rfl⟩
theorem ent20 : Ent' Try.prog 20 := ⟨_, Try.func20, by kernel_rfl, by kernel_rfl⟩
theorem ent32 : Ent' Try.prog 32 := ⟨_, Try.func32, by kernel_rfl, by kernel_rfl⟩
theorem ent33 : Ent' Try.prog 33 := ⟨_, Try.func33, by kernel_rfl, by kernel_rfl⟩
theorem ent36 : Ent' Try.prog 36 := ⟨_, Try.func36, by kernel_rfl, by kernel_rfl⟩
theorem ent37 : Ent' Try.prog 37 := ⟨_, Try.func37, by kernel_rfl, by kernel_rfl⟩
theorem ent47 : Ent' Try.prog 47 := ⟨_, Try.func47, by kernel_rfl, by kernel_rfl⟩
theorem ent49 : Ent' Try.prog 49 := ⟨_, Try.func49, by kernel_rfl, by kernel_rfl⟩
theorem ent57 : Ent' Try.prog 57 := ⟨_, Try.func57, by kernel_rfl, by kernel_rfl⟩
theorem ent60 : Ent' Try.prog 60 := ⟨_, Try.func60, by kernel_rfl, by kernel_rfl⟩
theorem ent62 : Ent' Try.prog 62 := ⟨_, Try.func62, by kernel_rfl, by kernel_rfl⟩
theorem ent63 : Ent' Try.prog 63 := ⟨_, Try.func63, by kernel_rfl, by kernel_rfl⟩
theorem ent64 : Ent' Try.prog 64 := ⟨_, Try.func64, by kernel_rfl, by kernel_rfl⟩
theorem ent65 : Ent' Try.prog 65 := ⟨_, Try.func65, by kernel_rfl, by kernel_rfl⟩
theorem ent68 : Ent' Try.prog 68 := ⟨_, Try.func68, by kernel_rfl, by kernel_rfl⟩
theorem ent69 : Ent' Try.prog 69 := ⟨_, Try.func69, by kernel_rfl, by kernel_rfl⟩
theorem ent71 : Ent' Try.prog 71 := ⟨_, Try.func71, by kernel_rfl, by kernel_rfl⟩
theorem ent80 : Ent' Try.prog 80 := ⟨_, Try.func80, by kernel_rfl, by kernel_rfl⟩
theorem ent81 : Ent' Try.prog 81 := ⟨_, Try.func81, by kernel_rfl, by kernel_rfl⟩
theorem ent82 : Ent' Try.prog 82 := ⟨_, Try.func82, by kernel_rfl, by kernel_rfl⟩
theorem ent84 : Ent' Try.prog 84 := ⟨_, Try.func84, by kernel_rfl, by kernel_rfl⟩
theorem ent87 : Ent' Try.prog 87 := ⟨_, Try.func87, by kernel_rfl, by kernel_rfl⟩
theorem ent88 : Ent' Try.prog 88 := ⟨_, Try.func88, by kernel_rfl, by kernel_rfl⟩
theorem ent89 : Ent' Try.prog 89 := ⟨_, Try.func89, by kernel_rfl, by kernel_rfl⟩
theorem ent95 : Ent' Try.prog 95 := ⟨_, Try.func95, by kernel_rfl, by kernel_rfl⟩
theorem ent96 : Ent' Try.prog 96 := ⟨_, Try.func96, by kernel_rfl, by kernel_rfl⟩
theorem ent97 : Ent' Try.prog 97 := ⟨_, Try.func97, by kernel_rfl, by kernel_rfl⟩
theorem ent98 : Ent' Try.prog 98 := ⟨_, Try.func98, by kernel_rfl, by kernel_rfl⟩
theorem eqt56 : EqT2 Try.prog 56 := ⟨_, _, _, _, Try.underlying56, by kernel_rfl, by kernel_rfl, by decide, by decide, rfl, rfl, Try.underlying3, Try.underlying3, ⟨_, Try.underlying3, rfl, by kernel_rfl⟩, ⟨_, Try.underlying3, rfl, by kernel_rfl⟩⟩
theorem fld118f0 : FldT Try.prog 118 0 0 := ⟨_, _, 0, Try.underlying118, rfl, rfl, by kernel_rfl⟩
theorem fld118f1 : FldT Try.prog 118 1 1 := ⟨_, _, 0, Try.underlying118, rfl, rfl, by kernel_rfl⟩
theorem fld56f0 : FldT Try.prog 56 0 0 := ⟨_, _, 0, Try.underlying56, rfl, rfl, by kernel_rfl⟩
theorem fld56f1 : FldT Try.prog 56 1 1 := ⟨_, _, 0, Try.underlying56, rfl, rfl, by kernel_rfl⟩
theorem fld59f0 : FldT Try.prog 59 0 0 := ⟨_, _, 0, Try.underlying59, rfl, rfl, by kernel_rfl⟩
theorem fld59f1 : FldT Try.prog 59 1 1 := ⟨_, _, 0, Try.underlying59, rfl, rfl, by kernel_rfl⟩
theorem leaf22 : LeafT Try.prog 22 := ⟨_, Try.underlying22, rfl, by kernel_rfl⟩
theorem leaf3 : LeafT Try.prog 3 := ⟨_, Try.underlying3, rfl, by kernel_rfl⟩
theorem leaf4 : LeafT Try.prog 4 := ⟨_, Try.underlying4, rfl, by kernel_rfl⟩
theorem leaf46 : LeafT Try.prog 46 := ⟨_, Try.underlying46, rfl, by kernel_rfl⟩
theorem leaf5 : LeafT Try.prog 5 := ⟨_, Try.underlying5, rfl, by kernel_rfl⟩
theorem leaf57 : LeafT Try.prog 57 := ⟨_, Try.underlying57, rfl, by kernel_rfl⟩
theorem mixed : Try.prog.follows .mixedOrders = true := by kernel_rfl
theorem slt22 : SlT Try.prog 22 5 1 := ⟨Try.underlying22, by kernel_rfl⟩
theorem slt23 : SlT Try.prog 23 59 2 := ⟨Try.underlying23, by kernel_rfl⟩
theorem slt25 : SlT Try.prog 25 3 1 := ⟨Try.underlying25, by kernel_rfl⟩
theorem slt46 : SlT Try.prog 46 4 1 := ⟨Try.underlying46, by kernel_rfl⟩
theorem slt57 : SlT Try.prog 57 56 2 := ⟨Try.underlying57, by kernel_rfl⟩
theorem str118 : StrT Try.prog 118 [(0, 1), (1, 1)] := ⟨_, Try.underlying118, by kernel_rfl⟩
theorem str56 : StrT Try.prog 56 [(0, 1), (1, 1)] := ⟨_, Try.underlying56, by kernel_rfl⟩
theorem str59 : StrT Try.prog 59 [(0, 1), (1, 1)] := ⟨_, Try.underlying59, by kernel_rfl⟩
end Go.Ab

/- Facts on the types of the program. -/
import Derived.Test.YtnjeclpjegdkpaaAb13
import Derived.Test.YtnjeclpjegdkpaaProg
import Derived.KernelRfl
namespace Go.Ab
open Go.Proofs
theorem agg56 : AggT Try.prog 56 2 := ⟨_, Try.underlying56, rfl, by kernel_rfl⟩
theorem agg59 : AggT Try.prog 59 2 := ⟨_, Try.underlying59, rfl, by kernel_rfl⟩
theorem elt118 : ElT Try.prog 118 2 32 (.agg #[.slice none 0 0, .int .i64 0]) := by unfold ElT; kernel_rfl
theorem elt3 : ElT Try.prog 3 1 8 (.int .i64 0) := by unfold ElT; kernel_rfl
theorem elt4 : ElT Try.prog 4 1 1 (.bool false) := by unfold ElT; kernel_rfl
theorem elt56 : ElT Try.prog 56 2 16 (.agg #[.int .i64 0, .int .i64 0]) := by unfold ElT; kernel_rfl
theorem elt59 : ElT Try.prog 59 2 32 (.agg #[.slice none 0 0, .int .i64 0]) := by unfold ElT; kernel_rfl
theorem ent100 : Ent' Try.prog 100 := ⟨_, Try.func100, by kernel_rfl, by kernel_rfl⟩
theorem ent101 : Ent' Try.prog 101 := ⟨_, Try.func101, by kernel_rfl, by kernel_rfl⟩
theorem ent102 : Ent' Try.prog 102 := ⟨_, Try.func102, by kernel_rfl, by kernel_rfl⟩
theorem ent104 : Ent' Try.prog 104 := ⟨_, Try.func104, by kernel_rfl, by kernel_rfl⟩
theorem ent105 : Ent' Try.prog 105 := ⟨_, Try.func105, by kernel_rfl, by kernel_rfl⟩
theorem ent106 : Ent' Try.prog 106 := ⟨_, Try.func106, by kernel_rfl, by kernel_rfl⟩
theorem ent107 : Ent' Try.prog 107 := ⟨_, Try.func107, by kernel_rfl, by kernel_rfl⟩
theorem ent108 : Ent' Try.prog 108 := ⟨_, Try.func108, by kernel_rfl, by kernel_rfl⟩
theorem ent109 : Ent' Try.prog 109 := ⟨_, Try.func109, by kernel_rfl, by kernel_rfl⟩
theorem ent110 : Ent' Try.prog 110 := ⟨_, Try.func110, by kernel_rfl, by kernel_rfl⟩
theorem ent120 : Ent' Try.prog 120 := ⟨_, Try.func120, by kernel_rfl, by kernel_rfl⟩
theorem ent128 : Ent' Try.prog 128 := ⟨_, Try.func128, by kernel_rfl, by kernel_rfl⟩
theorem ent129 : Ent' Try.prog 129 := ⟨_, Try.func129, by kernel_rfl, by kernel_rfl⟩
theorem ent134 : Ent' Try.prog 134 := ⟨_, Try.func134, by kernel_rfl, by kernel_rfl⟩
theorem ent135 : Ent' Try.prog 135 := ⟨_, Try.func135, by kernel_rfl, by kernel_rfl⟩
theorem ent136 : Ent' Try.prog 136 := ⟨_, Try.func136, by kernel_rfl, by kernel_rfl⟩
theorem ent137 : Ent' Try.prog 137 := ⟨_, Try.func137, by kernel_rfl, by kernel_rfl⟩
theorem ent138 : Ent' Try.prog 138 := ⟨_, Try.func138, by kernel_rfl, by kernel_rfl⟩
theorem ent139 : Ent' Try.prog 139 := ⟨_, Try.func139, by kernel_rfl, by kernel_rfl⟩
theorem ent140 : Ent' Try.prog 140 := ⟨_, Try.func140, by kernel_rfl, by kernel_rfl⟩
theorem ent148 : Ent' Try.prog 148 := ⟨_, Try.func148, by kernel_rfl, by kernel_rfl⟩
theorem ent152 : Ent' Try.prog 152 := ⟨_, Try.func152, by kernel_rfl, by kernel_rfl⟩
theorem ent153 : Ent' Try.prog 153 := ⟨_, Try.func153, by kernel_rfl, by kernel_rfl⟩
theorem ent43 : Ent' Try.prog 43 := ⟨_, Try.func43, by kernel_rfl, by kernel_rfl⟩
theorem ent44 : Ent' Try.prog 44 := ⟨_, Try.func44, by kernel_rfl, by kernel_rfl⟩
theorem ent46 : Ent' Try.prog 46 := ⟨_, Try.func46, by kernel_rfl, by kernel_rfl⟩
theorem ent47 : Ent' Try.prog 47 := ⟨_, Try.func47, by kernel_rfl, by kernel_rfl⟩
theorem ent48 : Ent' Try.prog 48 := ⟨_, Try.func48, by kernel_rfl, by kernel_rfl⟩
theorem ent49 : Ent' Try.prog 49 := ⟨_, Try.func49, by kernel_rfl, by kernel_rfl⟩
theorem ent62 : Ent' Try.prog 62 := ⟨_, Try.func62, by kernel_rfl, by kernel_rfl⟩
theorem ent65 : Ent' Try.prog 65 := ⟨_, Try.func65, by kernel_rfl, by kernel_rfl⟩
theorem ent69 : Ent' Try.prog 69 := ⟨_, Try.func69, by kernel_rfl, by kernel_rfl⟩
theorem ent71 : Ent' Try.prog 71 := ⟨_, Try.func71, by kernel_rfl, by kernel_rfl⟩
theorem ent84 : Ent' Try.prog 84 := ⟨_, Try.func84, by kernel_rfl, by kernel_rfl⟩
theorem ent87 : Ent' Try.prog 87 := ⟨_, Try.func87, by kernel_rfl, by kernel_rfl⟩
theorem ent93 : Ent' Try.prog 93 := ⟨_, Try.func93, by kernel_rfl, by kernel_rfl⟩
theorem ent97 : Ent' Try.prog 97 := ⟨_, Try.func97, by kernel_rfl, by kernel_rfl⟩
theorem ent98 : Ent' Try.prog 98 := ⟨_, Try.func98, by kernel_rfl, by kernel_rfl⟩
theorem ent99 : Ent' Try.prog 99 := ⟨_, Try.func99, by kernel_rfl, by kernel_rfl⟩
theorem fld118f0 : FldT Try.prog 118 0 0 := ⟨_, _, 0, Try.underlying118, rfl, rfl, by kernel_rfl⟩
theorem fld118f1 : FldT Try.prog 118 1 1 := ⟨_, _, 0, Try.underlying118, rfl, rfl, by kernel_rfl⟩
theorem fld56f0 : FldT Try.prog 56 0 0 := ⟨_, _, 0, Try.underlying56, rfl, rfl, by kernel_rfl⟩
theorem fld56f1 : FldT Try.prog 56 1 1 := ⟨_, _, 0, Try.underlying56, rfl, rfl, by kernel_rfl⟩
theorem fld59f0 : FldT Try.prog 59 0 0 := ⟨_, _, 0, Try.underlying59, rfl, rfl, by kernel_rfl⟩
theorem fld59f1 : FldT Try.prog 59 1 1 := ⟨_, _, 0, Try.underlying59, rfl, rfl, by kernel_rfl⟩
theorem leaf22 : LeafT Try.prog 22 := ⟨_, Try.underlying22, rfl, by kernel_rfl⟩
theorem leaf3 : LeafT Try.prog 3 := ⟨_, Try.underlying3, rfl, by kernel_rfl⟩
theorem leaf4 : LeafT Try.prog 4 := ⟨_, Try.underlying4, rfl, by kernel_rfl⟩
theorem leaf5 : LeafT Try.prog 5 := ⟨_, Try.underlying5, rfl, by kernel_rfl⟩
theorem leaf57 : LeafT Try.prog 57 := ⟨_, Try.underlying57, rfl, by kernel_rfl⟩
theorem mixed : Try.prog.follows .mixedOrders = true := by kernel_rfl
theorem slt22 : SlT Try.prog 22 5 1 := ⟨Try.underlying22, by kernel_rfl⟩
theorem slt25 : SlT Try.prog 25 3 1 := ⟨Try.underlying25, by kernel_rfl⟩
theorem slt46 : SlT Try.prog 46 4 1 := ⟨Try.underlying46, by kernel_rfl⟩
theorem slt57 : SlT Try.prog 57 56 2 := ⟨Try.underlying57, by kernel_rfl⟩
theorem str118 : StrT Try.prog 118 [(0, 1), (1, 1)] := ⟨_, Try.underlying118, by kernel_rfl⟩
theorem str56 : StrT Try.prog 56 [(0, 1), (1, 1)] := ⟨_, Try.underlying56, by kernel_rfl⟩
theorem str59 : StrT Try.prog 59 [(0, 1), (1, 1)] := ⟨_, Try.underlying59, by kernel_rfl⟩
end Go.Ab

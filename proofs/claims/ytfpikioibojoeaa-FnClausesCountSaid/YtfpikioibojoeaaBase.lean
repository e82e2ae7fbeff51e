/- Facts on the types of the program. -/
import Derived.Test.YtfpikioibojoeaaAb13
import Derived.Test.YtfpikioibojoeaaProg
import Derived.KernelRfl
namespace Go.Ab
open Go.Proofs
theorem agg25 : AggT Try.prog 25 2 := ⟨_, Try.underlying25, rfl, by kernel_rfl⟩
theorem agg88 : AggT Try.prog 88 2 := ⟨_, Try.underlying88, rfl, by kernel_rfl⟩
theorem elt110 : ElT Try.prog 110 2 32 (.agg #[.slice none 0 0, .int .i64 0]) := by unfold ElT; kernel_rfl
theorem elt25 : ElT Try.prog 25 2 32 (.agg #[.slice none 0 0, .int .i64 0]) := by unfold ElT; kernel_rfl
theorem elt3 : ElT Try.prog 3 1 8 (.int .i64 0) := by unfold ElT; kernel_rfl
theorem elt4 : ElT Try.prog 4 1 1 (.bool false) := by unfold ElT; kernel_rfl
theorem elt88 : ElT Try.prog 88 2 16 (.agg #[.int .i64 0, .int .i64 0]) := by unfold ElT; kernel_rfl
theorem ent102 : Ent' Try.prog 102 := ⟨_, Try.func102, by kernel_rfl, by kernel_rfl⟩
theorem ent105 : Ent' Try.prog 105 := ⟨_, Try.func105, by kernel_rfl, by kernel_rfl⟩
theorem ent110 : Ent' Try.prog 110 := ⟨_, Try.func110, by kernel_rfl, by kernel_rfl⟩
theorem ent115 : Ent' Try.prog 115 := ⟨_, Try.func115, by kernel_rfl, by kernel_rfl⟩
theorem ent116 : Ent' Try.prog 116 := ⟨_, Try.func116, by kernel_rfl, by kernel_rfl⟩
theorem ent118 : Ent' Try.prog 118 := ⟨_, Try.func118, by kernel_rfl, by kernel_rfl⟩
theorem ent120 : Ent' Try.prog 120 := ⟨_, Try.func120, by kernel_rfl, by kernel_rfl⟩
theorem ent121 : Ent' Try.prog 121 := ⟨_, Try.func121, by kernel_rfl, by kernel_rfl⟩
theorem ent122 : Ent' Try.prog 122 := ⟨_, Try.func122, by kernel_rfl, by kernel_rfl⟩
theorem ent123 : Ent' Try.prog 123 := ⟨_, Try.func123, by kernel_rfl, by kernel_rfl⟩
theorem ent134 : Ent' Try.prog 134 := ⟨_, Try.func134, by kernel_rfl, by kernel_rfl⟩
theorem ent24 : Ent' Try.prog 24 := ⟨_, Try.func24, by kernel_rfl, by kernel_rfl⟩
theorem ent32 : Ent' Try.prog 32 := ⟨_, Try.func32, by kernel_rfl, by kernel_rfl⟩
theorem ent43 : Ent' Try.prog 43 := ⟨_, Try.func43, by kernel_rfl, by kernel_rfl⟩
theorem ent45 : Ent' Try.prog 45 := ⟨_, Try.func45, by kernel_rfl, by kernel_rfl⟩
theorem ent51 : Ent' Try.prog 51 := ⟨_, Try.func51, by kernel_rfl, by kernel_rfl⟩
theorem ent52 : Ent' Try.prog 52 := ⟨_, Try.func52, by kernel_rfl, by kernel_rfl⟩
theorem ent57 : Ent' Try.prog 57 := ⟨_, Try.func57, by kernel_rfl, by kernel_rfl⟩
theorem ent63 : Ent' Try.prog 63 := ⟨_, Try.func63, by kernel_rfl, by kernel_rfl⟩
theorem ent64 : Ent' Try.prog 64 := ⟨_, Try.func64, by kernel_rfl, by kernel_rfl⟩
theorem ent66 : Ent' Try.prog 66 := ⟨_, Try.func66, by kernel_rfl, by kernel_rfl⟩
theorem ent68 : Ent' Try.prog 68 := ⟨_, Try.func68, by kernel_rfl, by kernel_rfl⟩
theorem ent71 : Ent' Try.prog 71 := ⟨_, Try.func71, by kernel_rfl, by kernel_rfl⟩
theorem ent74 : Ent' Try.prog 74 := ⟨_, Try.func74, by kernel_rfl, by kernel_rfl⟩
theorem ent75 : Ent' Try.prog 75 := ⟨_, Try.func75, by kernel_rfl, by kernel_rfl⟩
theorem ent76 : Ent' Try.prog 76 := ⟨_, Try.func76, by kernel_rfl, by kernel_rfl⟩
theorem ent78 : Ent' Try.prog 78 := ⟨_, Try.func78, by kernel_rfl, by kernel_rfl⟩
theorem ent81 : Ent' Try.prog 81 := ⟨_, Try.func81, by kernel_rfl, by kernel_rfl⟩
theorem ent82 : Ent' Try.prog 82 := ⟨_, Try.func82, by kernel_rfl, by kernel_rfl⟩
theorem ent86 : Ent' Try.prog 86 := ⟨_, Try.func86, by kernel_rfl, by kernel_rfl⟩
theorem ent91 : Ent' Try.prog 91 := ⟨_, Try.func91, by kernel_rfl, by kernel_rfl⟩
theorem ent96 : Ent' Try.prog 96 := ⟨_, Try.func96, by kernel_rfl, by kernel_rfl⟩
theorem ent98 : Ent' Try.prog 98 := ⟨_, Try.func98, by kernel_rfl, by kernel_rfl⟩
theorem ent99 : Ent' Try.prog 99 := ⟨_, Try.func99, by kernel_rfl, by kernel_rfl⟩
theorem eqt88 : EqT2 Try.prog 88 := ⟨_, _, _, _, Try.underlying88, by kernel_rfl, by kernel_rfl, by decide, by decide, rfl, rfl, Try.underlying3, Try.underlying3, ⟨_, Try.underlying3, rfl, by kernel_rfl⟩, ⟨_, Try.underlying3, rfl, by kernel_rfl⟩⟩
theorem fld110f0 : FldT Try.prog 110 0 0 := ⟨_, _, 0, Try.underlying110, rfl, rfl, by kernel_rfl⟩
theorem fld110f1 : FldT Try.prog 110 1 1 := ⟨_, _, 0, Try.underlying110, rfl, rfl, by kernel_rfl⟩
theorem fld25f0 : FldT Try.prog 25 0 0 := ⟨_, _, 0, Try.underlying25, rfl, rfl, by kernel_rfl⟩
theorem fld25f1 : FldT Try.prog 25 1 1 := ⟨_, _, 0, Try.underlying25, rfl, rfl, by kernel_rfl⟩
theorem fld88f0 : FldT Try.prog 88 0 0 := ⟨_, _, 0, Try.underlying88, rfl, rfl, by kernel_rfl⟩
theorem fld88f1 : FldT Try.prog 88 1 1 := ⟨_, _, 0, Try.underlying88, rfl, rfl, by kernel_rfl⟩
theorem leaf22 : LeafT Try.prog 22 := ⟨_, Try.underlying22, rfl, by kernel_rfl⟩
theorem leaf23 : LeafT Try.prog 23 := ⟨_, Try.underlying23, rfl, by kernel_rfl⟩
theorem leaf3 : LeafT Try.prog 3 := ⟨_, Try.underlying3, rfl, by kernel_rfl⟩
theorem leaf4 : LeafT Try.prog 4 := ⟨_, Try.underlying4, rfl, by kernel_rfl⟩
theorem leaf5 : LeafT Try.prog 5 := ⟨_, Try.underlying5, rfl, by kernel_rfl⟩
theorem leaf63 : LeafT Try.prog 63 := ⟨_, Try.underlying63, rfl, by kernel_rfl⟩
theorem mixed : Try.prog.follows .mixedOrders = true := by kernel_rfl
theorem slt22 : SlT Try.prog 22 5 1 := ⟨Try.underlying22, by kernel_rfl⟩
theorem slt23 : SlT Try.prog 23 88 2 := ⟨Try.underlying23, by kernel_rfl⟩
theorem slt27 : SlT Try.prog 27 3 1 := ⟨Try.underlying27, by kernel_rfl⟩
theorem slt40 : SlT Try.prog 40 25 2 := ⟨Try.underlying40, by kernel_rfl⟩
theorem slt63 : SlT Try.prog 63 4 1 := ⟨Try.underlying63, by kernel_rfl⟩
theorem str110 : StrT Try.prog 110 [(0, 1), (1, 1)] := ⟨_, Try.underlying110, by kernel_rfl⟩
theorem str25 : StrT Try.prog 25 [(0, 1), (1, 1)] := ⟨_, Try.underlying25, by kernel_rfl⟩
theorem str88 : StrT Try.prog 88 [(0, 1), (1, 1)] := ⟨_, Try.underlying88, by kernel_rfl⟩
end Go.Ab

/- Facts on the types of the program. -/
import Derived.Test.YtnfddmchognlgaaAb11
import Derived.Test.YtnfddmchognlgaaProg
import Derived.KernelRfl
namespace Go.Ab
open Go.Proofs
theorem agg37 : AggT Try.prog 37 2 := ⟨_, Try.underlying37, rfl, by kernel_rfl⟩
theorem agg42 : AggT Try.prog 42 2 := ⟨_, Try.underlying42, rfl, by kernel_rfl⟩
theorem agg73 : AggT Try.prog 73 2 := ⟨_, Try.underlying73, rfl, by kernel_rfl⟩
theorem agg93 : AggT Try.prog 93 2 := ⟨_, Try.underlying93, rfl, by kernel_rfl⟩
theorem elt3 : ElT Try.prog 3 1 8 (.int .i64 0) := by unfold ElT; kernel_rfl
theorem elt4 : ElT Try.prog 4 1 1 (.bool false) := by unfold ElT; kernel_rfl
theorem elt42 : ElT Try.prog 42 2 32 (.agg #[.slice none 0 0, .int .i64 0]) := by unfold ElT; kernel_rfl
theorem elt73 : ElT Try.prog 73 2 16 (.agg #[.int .i64 0, .int .i64 0]) := by unfold ElT; kernel_rfl
theorem ent15 : Ent' Try.prog 15 := ⟨_, Try.func15, by kernel_rfl, by kernel_rfl⟩
theorem ent16 : Ent' Try.prog 16 := ⟨_, Try.func16, by kernel_rfl, by kernel_rfl⟩
theorem ent17 : Ent' Try.prog 17 := ⟨_, Try.func17, by kernel_rfl, by kernel_rfl⟩
theorem ent18 : Ent' Try.prog 18 := ⟨_, Try.func18, by kernel_rfl, by kernel_rfl⟩
theorem ent19 : Ent' Try.prog 19 := ⟨_, Try.func19, by kernel_rfl, by kernel_rfl⟩
theorem ent20 : Ent' Try.prog 20 := ⟨_, Try.func20, by kernel_rfl, by kernel_rfl⟩
theorem ent21 : Ent' Try.prog 21 := ⟨_, Try.func21, by kernel_rfl, by kernel_rfl⟩
theorem ent22 : Ent' Try.prog 22 := ⟨_, Try.func22, by kernel_rfl, by kernel_rfl⟩
theorem ent26 : Ent' Try.prog 26 := ⟨_, Try.func26, by kernel_rfl, by kernel_rfl⟩
theorem ent27 : Ent' Try.prog 27 := ⟨_, Try.func27, by kernel_rfl, by kernel_rfl⟩
theorem ent28 : Ent' Try.prog 28 := ⟨_, Try.func28, by kernel_rfl, by kernel_rfl⟩
theorem ent29 : Ent' Try.prog 29 := ⟨_, Try.func29, by kernel_rfl, by kernel_rfl⟩
theorem ent30 : Ent' Try.prog 30 := ⟨_, Try.func30, by kernel_rfl, by kernel_rfl⟩
theorem ent32 : Ent' Try.prog 32 := ⟨_, Try.func32, by kernel_rfl, by kernel_rfl⟩
theorem ent33 : Ent' Try.prog 33 := ⟨_, Try.func33, by kernel_rfl, by kernel_rfl⟩
theorem ent35 : Ent' Try.prog 35 := ⟨_, Try.func35, by kernel_rfl, by kernel_rfl⟩
theorem ent39 : Ent' Try.prog 39 := ⟨_, Try.func39, by kernel_rfl, by kernel_rfl⟩
theorem ent40 : Ent' Try.prog 40 := ⟨_, Try.func40, by kernel_rfl, by kernel_rfl⟩
theorem ent41 : Ent' Try.prog 41 := ⟨_, Try.func41, by kernel_rfl, by kernel_rfl⟩
theorem ent42 : Ent' Try.prog 42 := ⟨_, Try.func42, by kernel_rfl, by kernel_rfl⟩
theorem ent43 : Ent' Try.prog 43 := ⟨_, Try.func43, by kernel_rfl, by kernel_rfl⟩
theorem ent44 : Ent' Try.prog 44 := ⟨_, Try.func44, by kernel_rfl, by kernel_rfl⟩
theorem ent45 : Ent' Try.prog 45 := ⟨_, Try.func45, by kernel_rfl, by kernel_rfl⟩
theorem ent51 : Ent' Try.prog 51 := ⟨_, Try.func51, by kernel_rfl, by kernel_rfl⟩
theorem ent52 : Ent' Try.prog 52 := ⟨_, Try.func52, by kernel_rfl, by kernel_rfl⟩
theorem ent58 : Ent' Try.prog 58 := ⟨_, Try.func58, by kernel_rfl, by kernel_rfl⟩
theorem ent59 : Ent' Try.prog 59 := ⟨_, Try.func59, by kernel_rfl, by kernel_rfl⟩
theorem ent60 : Ent' Try.prog 60 := ⟨_, Try.func60, by kernel_rfl, by kernel_rfl⟩
theorem ent61 : Ent' Try.prog 61 := ⟨_, Try.func61, by kernel_rfl, by kernel_rfl⟩
theorem ent62 : Ent' Try.prog 62 := ⟨_, Try.func62, by kernel_rfl, by kernel_rfl⟩
theorem ent64 : Ent' Try.prog 64 := ⟨_, Try.func64, by kernel_rfl, by kernel_rfl⟩
theorem ent65 : Ent' Try.prog 65 := ⟨_, Try.func65, by kernel_rfl, by kernel_rfl⟩
theorem ent66 : Ent' Try.prog 66 := ⟨_, Try.func66, by kernel_rfl, by kernel_rfl⟩
theorem ent67 : Ent' Try.prog 67 := ⟨_, Try.func67, by kernel_rfl, by kernel_rfl⟩
theorem ent69 : Ent' Try.prog 69 := ⟨_, Try.func69, by kernel_rfl, by kernel_rfl⟩
theorem ent70 : Ent' Try.prog 70 := ⟨_, Try.func70, by kernel_rfl, by kernel_rfl⟩
theorem ent71 : Ent' Try.prog 71 := ⟨_, Try.func71, by kernel_rfl, by kernel_rfl⟩
theorem ent72 : Ent' Try.prog 72 := ⟨_, Try.func72, by kernel_rfl, by kernel_rfl⟩
theorem ent73 : Ent' Try.prog 73 := ⟨_, Try.func73, by kernel_rfl, by kernel_rfl⟩
theorem ent74 : Ent' Try.prog 74 := ⟨_, Try.func74, by kernel_rfl, by kernel_rfl⟩
theorem ent75 : Ent' Try.prog 75 := ⟨_, Try.func75, by kernel_rfl, by kernel_rfl⟩
theorem ent76 : Ent' Try.prog 76 := ⟨_, Try.func76, by kernel_rfl, by kernel_rfl⟩
theorem ent77 : Ent' Try.prog 77 := ⟨_, Try.func77, by kernel_rfl, by kernel_rfl⟩
theorem ent78 : Ent' Try.prog 78 := ⟨_, Try.func78, by kernel_rfl, by kernel_rfl⟩
theorem ent87 : Ent' Try.prog 87 := ⟨_, Try.func87, by kernel_rfl, by kernel_rfl⟩
theorem ent88 : Ent' Try.prog 88 := ⟨_, Try.func88, by kernel_rfl, by kernel_rfl⟩
theorem ent89 : Ent' Try.prog 89 := ⟨_, Try.func89, by kernel_rfl, by kernel_rfl⟩
theorem ent90 : Ent' Try.prog 90 := ⟨_, Try.func90, by kernel_rfl, by kernel_rfl⟩
theorem ent92 : Ent' Try.prog 92 := ⟨_, Try.func92, by kernel_rfl, by kernel_rfl⟩
theorem ent93 : Ent' Try.prog 93 := ⟨_, Try.func93, by kernel_rfl, by kernel_rfl⟩
theorem ent94 : Ent' Try.prog 94 := ⟨_, Try.func94, by kernel_rfl, by kernel_rfl⟩
theorem ent95 : Ent' Try.prog 95 := ⟨_, Try.func95, by kernel_rfl, by kernel_rfl⟩
theorem fld37f0 : FldT Try.prog 37 0 0 := ⟨_, _, 0, Try.underlying37, rfl, rfl, by kernel_rfl⟩
theorem fld37f1 : FldT Try.prog 37 1 1 := ⟨_, _, 0, Try.underlying37, rfl, rfl, by kernel_rfl⟩
theorem fld42f0 : FldT Try.prog 42 0 0 := ⟨_, _, 0, Try.underlying42, rfl, rfl, by kernel_rfl⟩
theorem fld42f1 : FldT Try.prog 42 1 1 := ⟨_, _, 0, Try.underlying42, rfl, rfl, by kernel_rfl⟩
theorem fld73f0 : FldT Try.prog 73 0 0 := ⟨_, _, 0, Try.underlying73, rfl, rfl, by kernel_rfl⟩
theorem fld73f1 : FldT Try.prog 73 1 1 := ⟨_, _, 0, Try.underlying73, rfl, rfl, by kernel_rfl⟩
theorem fld93f0 : FldT Try.prog 93 0 0 := ⟨_, _, 0, Try.underlying93, rfl, rfl, by kernel_rfl⟩
theorem fld93f1 : FldT Try.prog 93 1 1 := ⟨_, _, 0, Try.underlying93, rfl, rfl, by kernel_rfl⟩
theorem leaf3 : LeafT Try.prog 3 := ⟨_, Try.underlying3, rfl, by kernel_rfl⟩
theorem leaf35 : LeafT Try.prog 35 := ⟨_, Try.underlying35, rfl, by kernel_rfl⟩
theorem leaf4 : LeafT Try.prog 4 := ⟨_, Try.underlying4, rfl, by kernel_rfl⟩
theorem leaf40 : LeafT Try.prog 40 := ⟨_, Try.underlying40, rfl, by kernel_rfl⟩
theorem mixed : Try.prog.follows .mixedOrders = true := by kernel_rfl
theorem slt22 : SlT Try.prog 22 4 1 := ⟨Try.underlying22, by kernel_rfl⟩
theorem slt35 : SlT Try.prog 35 93 2 := ⟨Try.underlying35, by kernel_rfl⟩
theorem slt40 : SlT Try.prog 40 73 2 := ⟨Try.underlying40, by kernel_rfl⟩
theorem slt46 : SlT Try.prog 46 3 1 := ⟨Try.underlying46, by kernel_rfl⟩
theorem str42 : StrT Try.prog 42 [(0, 1), (1, 1)] := ⟨_, Try.underlying42, by kernel_rfl⟩
theorem str73 : StrT Try.prog 73 [(0, 1), (1, 1)] := ⟨_, Try.underlying73, by kernel_rfl⟩
end Go.Ab

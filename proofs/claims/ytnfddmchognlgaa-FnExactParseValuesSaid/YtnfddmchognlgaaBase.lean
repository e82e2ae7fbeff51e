/- Facts on the types of the program. -/
import Derived.Test.YtnfddmchognlgaaAb11
import Derived.Test.YtnfddmchognlgaaProg
import Derived.KernelRfl
namespace Go.Ab
open Go.Proofs
theorem elt4 : ElT Try.prog 4 1 1 (.bool false) := by unfold ElT; kernel_rfl
theorem ent15 : Ent' Try.prog 15 := ⟨_, Try.func15, by kernel_rfl, by kernel_rfl⟩
theorem ent16 : Ent' Try.prog 16 := ⟨_, Try.func16, by kernel_rfl, by kernel_rfl⟩
theorem ent17 : Ent' Try.prog 17 := ⟨_, Try.func17, by kernel_rfl, by kernel_rfl⟩
theorem ent18 : Ent' Try.prog 18 := ⟨_, Try.func18, by kernel_rfl, by kernel_rfl⟩
theorem ent19 : Ent' Try.prog 19 := ⟨_, Try.func19, by kernel_rfl, by kernel_rfl⟩
theorem ent20 : Ent' Try.prog 20 := ⟨_, Try.func20, by kernel_rfl, by kernel_rfl⟩
theorem ent21 : Ent' Try.prog 21 := ⟨_, Try.func21, by kernel_rfl, by kernel_rfl⟩
theorem ent22 : Ent' Try.prog 22 := ⟨_, Try.func22, by kernel_rfl, by kernel_rfl⟩
theorem leaf4 : LeafT Try.prog 4 := ⟨_, Try.underlying4, rfl, by kernel_rfl⟩
theorem mixed : Try.prog.follows .mixedOrders = true := by kernel_rfl
theorem slt22 : SlT Try.prog 22 4 1 := ⟨Try.underlying22, by kernel_rfl⟩
end Go.Ab

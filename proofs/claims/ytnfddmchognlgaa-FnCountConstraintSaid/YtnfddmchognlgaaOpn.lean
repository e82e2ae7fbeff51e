/- The arguments' types, opened. -/
import Derived.Test.YtnfddmchognlgaaAb12
import Derived.Test.YtnfddmchognlgaaVals
import Derived.Test.YtnfddmchognlgaaRows
namespace Go.Ab
open Go.Proofs
def okT (t : Term) : Prop := inI64 t.1 ∧ inI64 t.2
def okC (c : Con) : Prop := (∀ a ∈ c.1, okT a) ∧ inI64 c.2
theorem own : ownKnob Try.prog.godebug = none := by kernel_rfl
theorem laidOut : laidOutB Try.prog = true := by kernel_rfl
theorem o4 : Opens Try.prog 4 1 dB (fun _ => True) := opens_bool Try.underlying4
theorem o22 : Opens Try.prog 22 1 (fun l : List (Bool) => [.sl (l.map dB)]) (fun l => ∀ a ∈ l, (fun _ => True) a) := opens_slice Try.underlying22 (by kernel_rfl) (by decide) o4
theorem o9 : Opens Try.prog 9 1 dS (fun b => b.size ≤ maxLen) := opens_string Try.underlying9
theorem o3 : Opens Try.prog 3 1 dI (inI64) := opens_int Try.underlying3
theorem o93 : Opens Try.prog 93 2 dT okT := opens_struct2 Try.underlying93 rfl rfl rfl rfl (by kernel_rfl) (by kernel_rfl) (by kernel_rfl) o3 o3
theorem o35 : Opens Try.prog 35 1 (fun l : List (Term) => [.sl (l.map dT)]) (fun l => ∀ a ∈ l, okT a) := opens_slice Try.underlying35 (by kernel_rfl) (by decide) o93
theorem o37 : Opens Try.prog 37 2 dC okC := opens_struct2 Try.underlying37 rfl rfl rfl rfl (by kernel_rfl) (by kernel_rfl) (by kernel_rfl) o35 o3
theorem o46 : Opens Try.prog 46 1 (fun l : List (Int) => [.sl (l.map dI)]) (fun l => ∀ a ∈ l, (inI64) a) := opens_slice Try.underlying46 (by kernel_rfl) (by decide) o3
theorem o5 : Opens Try.prog 5 1 dU (inU8) := opens_u8 Try.underlying5
theorem o31 : Opens Try.prog 31 1 (fun l : List (Int) => [.sl (l.map dU)]) (fun l => ∀ a ∈ l, (inU8) a) := opens_slice Try.underlying31 (by kernel_rfl) (by decide) o5
end Go.Ab

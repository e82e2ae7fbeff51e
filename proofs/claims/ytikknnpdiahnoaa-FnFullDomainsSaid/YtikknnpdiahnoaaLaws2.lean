/- What the laws on sums and bounds say, told plainly. -/
import Derived.Test.YtikknnpdiahnoaaProb
set_option linter.unusedSimpArgs false
set_option linter.unusedVariables false
namespace Go.Ab
/-! ### Multiples -/
end Go.Ab
namespace Go.Ab
end Go.Ab

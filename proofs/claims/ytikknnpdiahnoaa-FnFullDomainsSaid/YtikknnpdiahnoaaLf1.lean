/- What the laws on filtering by a rule ask. -/
import Derived.Test.YtikknnpdiahnoaaFf2
set_option linter.unusedSimpArgs false
set_option linter.unusedVariables false
namespace Go.Ab
end Go.Ab

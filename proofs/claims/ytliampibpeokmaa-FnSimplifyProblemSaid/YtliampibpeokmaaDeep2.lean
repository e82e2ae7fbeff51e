/- Sizes of results. -/
import Derived.Test.YtliampibpeokmaaDeep
import Derived.Test.YtliampibpeokmaaClau
set_option linter.unusedSimpArgs false
set_option linter.unusedVariables false
namespace Go.Ab
end Go.Ab

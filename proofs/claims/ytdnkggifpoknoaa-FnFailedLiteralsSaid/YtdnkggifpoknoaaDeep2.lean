/- Sizes of results. -/
import Derived.Test.YtdnkggifpoknoaaDeep
import Derived.Test.YtdnkggifpoknoaaClau
set_option linter.unusedSimpArgs false
set_option linter.unusedVariables false
namespace Go.Ab
end Go.Ab

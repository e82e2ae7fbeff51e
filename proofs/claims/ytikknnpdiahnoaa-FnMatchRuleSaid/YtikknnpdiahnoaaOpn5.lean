/- Structs of five fields, opened. -/
import Derived.Test.YtikknnpdiahnoaaAb12
import Derived.Test.YtikknnpdiahnoaaMt
set_option linter.unusedSimpArgs false
set_option linter.unusedVariables false
namespace Go.Ab
def dM (m : Md) : List V := [.sl (m.1.map dI), .sl (m.2.map dR)]
end Go.Ab

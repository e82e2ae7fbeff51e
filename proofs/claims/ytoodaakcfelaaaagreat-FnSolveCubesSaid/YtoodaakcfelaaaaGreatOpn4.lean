/- Steps of proofs, opened. -/
import Derived.Test.YtoodaakcfelaaaaGreatAb12
import Derived.Test.YtoodaakcfelaaaaGreatPf3
set_option linter.unusedSimpArgs false
set_option linter.unusedVariables false
namespace Go.Ab
end Go.Ab

/- laws.FnSimplifyProblem answers true for every input, and its arguments read behind the call as they did. No condition. -/
import Derived.Test.YtliampibpeokmaaOpn
import Derived.Test.YtliampibpeokmaaWssimp
import Derived.Test.YtliampibpeokmaaRows
namespace Go.Proofs.Ytliampibpeokmaa
open Go.ChangeShapes Go.WideShapes Go.ChangeAt Go.RowKit Go.Ab
set_option linter.unusedSimpArgs false
set_option linter.unusedVariables false

set_option maxRecDepth 100000 in
end Go.Proofs.Ytliampibpeokmaa

/- Walks. -/
import Derived.Test.YtfpikioibojoeaaBase
import Derived.Test.YtfpikioibojoeaaVals
namespace Go.Ab
open Go.Proofs
set_option maxRecDepth 100000
set_option maxHeartbeats 8000000
set_option linter.unusedSimpArgs false
set_option linter.unusedVariables false
end Go.Ab

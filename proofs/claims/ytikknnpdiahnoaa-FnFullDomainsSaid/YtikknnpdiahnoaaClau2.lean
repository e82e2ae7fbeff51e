/- Clauses of a constraint are least, and follow by reverse unit propagation. -/
import Derived.Test.YtikknnpdiahnoaaPrpg3
set_option linter.unusedSimpArgs false
set_option linter.unusedVariables false
namespace Go.Ab
def rupB (l : List Con) (c : Con) : Bool := pOk l && (cOk c && rupV l c)
end Go.Ab

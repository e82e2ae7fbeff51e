/- The sizes of filtered domains. -/
import Derived.Test.YtikknnpdiahnoaaFlt4
import Derived.Test.YtikknnpdiahnoaaFd
namespace Go.Ab
def wLB (xs : List (List Bool)) : Nat := xs.length + sumW List.length xs
end Go.Ab

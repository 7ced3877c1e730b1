/- Lemmas. -/
import Derived.Test.YtpcfhbeakecihaaGreatM6
import Derived.Test.YtpcfhbeakecihaaGreatChecked
set_option linter.all false
set_option maxHeartbeats 20000000
set_option maxRecDepth 100000
namespace Go.Proofs.YtpcfhbeakecihaaGreat
open Go.RowKit
structure dI where
 f:Nat→Int
 g:Bool
def bd (m:dI)(d:Value):Array Value:=#[ah (m.f 0),ah (m.f 1),ah (m.f 2),ah (m.f 3),ah (m.f 4),ah (m.f 5),ah (m.f 6),ah (m.f 7),ah (m.f 8),.bool m.g,d]
end Go.Proofs.YtpcfhbeakecihaaGreat

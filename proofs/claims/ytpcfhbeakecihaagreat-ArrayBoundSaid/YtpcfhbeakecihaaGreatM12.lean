/- Lemmas. -/
import Derived.Test.YtpcfhbeakecihaaGreatM6
import Derived.Test.YtpcfhbeakecihaaGreatChecked
set_option linter.all false
set_option maxHeartbeats 20000000
set_option maxRecDepth 100000
namespace Go.Proofs.YtpcfhbeakecihaaGreat
open Go.RowKit
structure ec where
 f:Nat→Int
 g:Bool
def bc (m:ec)(d:Value):Array Value:=#[ah (m.f 0),ah (m.f 1),ah (m.f 2),ah (m.f 3),ah (m.f 4),ah (m.f 5),ah (m.f 6),ah (m.f 7),ah (m.f 8),.bool m.g,d]
theorem Gp (m:ec)(d:Value){i:Nat}(hi:i<9):(bc m d)[i]? =some (ah (m.f i)):=by
 rcases(show i=0∨i=1∨i=2∨i=3∨i=4∨i=5∨i=6∨i=7∨i=8 by omega)with rfl|rfl|rfl|rfl|rfl|rfl|rfl|rfl|rfl<;>rfl
end Go.Proofs.YtpcfhbeakecihaaGreat

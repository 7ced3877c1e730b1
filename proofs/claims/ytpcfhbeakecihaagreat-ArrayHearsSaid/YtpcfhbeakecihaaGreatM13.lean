/- Lemmas. -/
import Derived.Test.YtpcfhbeakecihaaGreatM11
import Derived.Test.YtpcfhbeakecihaaGreatM12
set_option linter.all false
set_option maxHeartbeats 20000000
set_option maxRecDepth 100000
namespace Go.Proofs.YtpcfhbeakecihaaGreat
open Go.ChangeAt Go.ChangeShapes Go.Deep Go.RowKit Go.WideShapes
section
variable {H:Type}{enc:TypeId×Value→H}{w:World}{base:Nat}{spare:Nat→Bool}{held:Bool}
end
end Go.Proofs.YtpcfhbeakecihaaGreat

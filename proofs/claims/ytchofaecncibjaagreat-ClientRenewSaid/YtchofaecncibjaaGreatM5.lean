/- Lemmas. -/
import Derived.KernelRfl
set_option linter.all false
set_option maxHeartbeats 20000000
set_option maxRecDepth 100000
namespace Go.Proofs.YtchofaecncibjaaGreat
theorem bZ {P:Prop}(h:P:=by kernel_rfl):P:=h
end Go.Proofs.YtchofaecncibjaaGreat

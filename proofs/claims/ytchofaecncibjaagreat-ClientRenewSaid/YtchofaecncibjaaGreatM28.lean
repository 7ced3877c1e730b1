/- Lemmas. -/
import Derived.Test.YtchofaecncibjaaGreatM5
import Derived.Shelf.Small.Bits
import Derived.Test.YtchofaecncibjaaGreatProg
set_option linter.all false
set_option maxHeartbeats 20000000
set_option maxRecDepth 100000
namespace Go.Proofs.YtchofaecncibjaaGreat
open Go.Shelf
def CE:Go.Shelf.Ren:=⟨fun|125=>208|128=>209|129=>210|n=>n,fun|46=>155|3=>3|51=>270|53=>282|4=>4|5=>5|9=>9|n=>n,fun|n=>n⟩
theorem K8:Go.Proofs.Lays.n125 Tryz.prog CE:={
 mixed:=by kernel_rfl
 f125:=Tryz.func208.trans (congrArg some bZ)
 f128:=Tryz.func209.trans (congrArg some bZ)
 f129:=Tryz.func210.trans (congrArg some bZ)
 t3:=Tryz.underlying3
 a3:=Tryz.isAgg3
 z3:=Tryz.sizeOf3
 v3:=Tryz.zeroValue3
 t4:=Tryz.underlying4
 a4:=Tryz.isAgg4
 z4:=Tryz.sizeOf4
 v4:=Tryz.zeroValue4
 t5:=Tryz.underlying5
 a5:=Tryz.isAgg5
 z5:=Tryz.sizeOf5
 v5:=Tryz.zeroValue5
 t9:=Tryz.underlying9
 a9:=Tryz.isAgg9
 z9:=Tryz.sizeOf9
 v9:=Tryz.zeroValue9
 t46:=Tryz.underlying155
 a46:=Tryz.isAgg155
 z46:=Tryz.sizeOf155
 v46:=Tryz.zeroValue155
 t51:=Tryz.underlying270
 a51:=Tryz.isAgg270
 z51:=Tryz.sizeOf270
 v51:=Tryz.zeroValue270
 t53:=Tryz.underlying282
 a53:=Tryz.isAgg282
 z53:=Tryz.sizeOf282
 v53:=Tryz.zeroValue282}
theorem I2 (x:Int)(w:World)(h0:0≤x)(h1:x≤18446744073709551615):
 Calls Tryz.prog 208 #[.int .u64 x] w fun e w'=>e= .returned (.int .i64 (Lib.bitLen x.toNat))∧w'=w:=Any.bits_Len K8 x w h0 h1
end Go.Proofs.YtchofaecncibjaaGreat

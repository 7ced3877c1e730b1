/- Lemmas. -/
import Derived.Test.YtpcfhbeakecihaaGreatM5
import Derived.Shelf.Small.Bits
import Derived.Test.YtpcfhbeakecihaaGreatProg
set_option linter.all false
set_option maxHeartbeats 20000000
set_option maxRecDepth 100000
namespace Go.Proofs.YtpcfhbeakecihaaGreat
open Go.Shelf
def wI:Go.Shelf.Ren:=⟨fun|125=>209|128=>210|129=>211|n=>n,fun|46=>117|3=>3|51=>268|53=>285|4=>4|5=>5|9=>9|n=>n,fun|n=>n⟩
theorem D9:Go.Proofs.Lays.n125 Tryz.prog wI:={
 mixed:=by kernel_rfl
 f125:=Tryz.func209.trans (congrArg some aS)
 f128:=Tryz.func210.trans (congrArg some aS)
 f129:=Tryz.func211.trans (congrArg some aS)
 t3:=Tryz.underlying3
 a3:=Tryz.isAgg3
 z3:=Tryz.sizeOf3
 v3:=Tryz.zeroValue3
 t4:=Tryz.underlying4
 a4:=Tryz.isAgg4
 z4:=Tryz.sizeOf4
 v4:=Tryz.zeroValue4
 t5:=Tryz.underlying5
 a5:=Tryz.isAgg5
 z5:=Tryz.sizeOf5
 v5:=Tryz.zeroValue5
 t9:=Tryz.underlying9
 a9:=Tryz.isAgg9
 z9:=Tryz.sizeOf9
 v9:=Tryz.zeroValue9
 t46:=Tryz.underlying117
 a46:=Tryz.isAgg117
 z46:=Tryz.sizeOf117
 v46:=Tryz.zeroValue117
 t51:=Tryz.underlying268
 a51:=Tryz.isAgg268
 z51:=Tryz.sizeOf268
 v51:=Tryz.zeroValue268
 t53:=Tryz.underlying285
 a53:=Tryz.isAgg285
 z53:=Tryz.sizeOf285
 v53:=Tryz.zeroValue285}
theorem CA (x:Int)(w:World)(h0:0≤x)(h1:x≤18446744073709551615):
 Calls Tryz.prog 209 #[.int .u64 x] w fun e w'=>e= .returned (.int .i64 (Lib.bitLen x.toNat))∧w'=w:=Any.bits_Len D9 x w h0 h1
end Go.Proofs.YtpcfhbeakecihaaGreat

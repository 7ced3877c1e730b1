/- Lemmas. -/
import Derived.Lib.Hide
set_option linter.all false
set_option maxHeartbeats 20000000
set_option maxRecDepth 100000
namespace Go.Proofs.YtpcfhbeakecihaaGreat
theorem ae {p:Prop}(h:p):RowKit.Hid p:=h
abbrev aM (w:World)(b o:Nat)(v:Value):Prop:=w.cell? ⟨b,o,none⟩=some v
abbrev aF (w:World)(b o:Nat)(x:Int):Prop:=w.cell? ⟨b,o,none⟩=some (.int .i64 x)
abbrev aO (b:Nat):Value:=.pointer (some ⟨b,0,none⟩)
abbrev aT:Value:=.slice none 0 0
abbrev ah (x:Int):Value:=.int .i64 x
abbrev bp (b n c:Nat):Value:=.slice (some ⟨b,0,none⟩) n c
theorem aq (p:Prop)(h:p):RowKit.Hid p:=h
end Go.Proofs.YtpcfhbeakecihaaGreat

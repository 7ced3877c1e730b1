/- Lemmas. -/
import Derived.Lib.Hide
set_option linter.all false
set_option maxHeartbeats 20000000
set_option maxRecDepth 100000
namespace Go.Proofs.YtpcfhbeakecihaaGreat
theorem ae {p:Prop}(h:p):RowKit.Hid p:=h
abbrev ba (w:World)(b o:Nat)(v:Value):Prop:=w.cell? ⟨b,o,none⟩=some v
abbrev aF (w:World)(b o:Nat)(x:Int):Prop:=w.cell? ⟨b,o,none⟩=some (.int .i64 x)
abbrev aI (b:Nat):Value:=.pointer (some ⟨b,0,none⟩)
abbrev ey:Value:=.slice none 0 0
abbrev ah (x:Int):Value:=.int .i64 x
abbrev cS (b n c:Nat):Value:=.slice (some ⟨b,0,none⟩) n c
theorem aH (p:Prop)(h:p):RowKit.Hid p:=h
end Go.Proofs.YtpcfhbeakecihaaGreat

/- Lemmas. -/
import Derived.Lib.Hide
set_option linter.all false
set_option maxHeartbeats 20000000
set_option maxRecDepth 100000
namespace Go.Proofs.YtchofaecncibjaaGreat
theorem ae {p:Prop}(h:p):RowKit.Hid p:=h
abbrev aE (w:World)(b o:Nat)(v:Value):Prop:=w.cell? ⟨b,o,none⟩=some v
abbrev aw (w:World)(b o:Nat)(x:Int):Prop:=w.cell? ⟨b,o,none⟩=some (.int .i64 x)
abbrev aO (b:Nat):Value:=.pointer (some ⟨b,0,none⟩)
abbrev aJ:Value:=.slice none 0 0
abbrev ah (x:Int):Value:=.int .i64 x
abbrev aU (b n c:Nat):Value:=.slice (some ⟨b,0,none⟩) n c
theorem aB (p:Prop)(h:p):RowKit.Hid p:=h
end Go.Proofs.YtchofaecncibjaaGreat

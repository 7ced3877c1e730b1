/- Lemmas. -/
import Derived.KernelRfl
import Derived.Laws.Rows
set_option linter.all false
set_option maxHeartbeats 20000000
set_option maxRecDepth 100000
namespace Go.Proofs.YtpcfhbeakecihaaGreat
section
variable {P:Program}{ops:Array Oper}{Q:Exit→Act→World→Prop}
theorem iy {rest:List Oper}{o:Oper}{a:Act}{w:World}{ty:TypeId}{x:Operand}{g:Nat}{t:TypeId}(cs:Array Value){fr:Nat×Nat}{d:TypeDesc}(hg:w.heap[g]? =some (.cells cs t fr))(hu:P.underlying ty=some d)
 (h:wpList P ops Q rest (a.put o.dst (.agg cs)) w) (qw:o.guard=none:=by rfl) (ho:o.op= .load ty x:=by rfl) (hx:a.eval x= .pointer (some ⟨g,0,none⟩):=by rfl)
 (hd:(match d with| .struct _| .array _ _=>true|_=>false)=true:=by rfl) (hi:(P.info? ty).map (·.size)=some cs.size:=by kernel_rfl):wpList P ops Q (o :: rest) a w:=
 wpList_load_row qw ty x ho g hx t cs fr d hg hu hd hi h
theorem iP {rest:List Oper}{o:Oper}{a:Act}{w:World}{ty:TypeId}{x y:Operand}{g:Nat}(cells:Array Value){t:TypeId}{old:Array Value}(hg:w.heap[g]? =some (.cells old t (0,0)))(h1:cells.all (·.oneCell')=true)
 (h:wpList P ops Q rest (a.put o.dst undef) (w.setRow g cells)) (qw:o.guard=none:=by rfl) (ho:o.op= .store ty x y:=by rfl) (hx:a.eval x= .pointer (some ⟨g,0,none⟩):=by rfl) (hy:a.eval y= .agg cells:=by rfl)
 (hi:(P.info? ty).map (·.size)=some cells.size:=by kernel_rfl) (hold:old.size=cells.size:=by rfl):wpList P ops Q (o :: rest) a w:=
 wpList_store_row qw ty x y ho g cells hx hy t old hg hi hold h1 h
end
end Go.Proofs.YtpcfhbeakecihaaGreat

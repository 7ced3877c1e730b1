/- Lemmas. -/
import Derived.Test.YtpcfhbeakecihaaGreatM10
import Derived.Test.YtpcfhbeakecihaaGreatM12
set_option linter.all false
set_option maxHeartbeats 20000000
set_option maxRecDepth 100000
namespace Go.Proofs.YtpcfhbeakecihaaGreat
open Go.RowKit
structure vr where
 cA:Int
 m:dI
 d:List Int
instance:Inhabited vr:=⟨⟨0,⟨fun _=>0,false⟩,[]⟩⟩
def Oy (a:vr)(dv:Value):Array Value:=#[ah a.cA,ah (a.m.f 0),ah (a.m.f 1),ah (a.m.f 2),ah (a.m.f 3),ah (a.m.f 4),ah (a.m.f 5),ah (a.m.f 6),ah (a.m.f 7),ah (a.m.f 8),.bool a.m.g,dv]
structure kh (base:Nat)(w:World)(A:Option Addr)(n c:Nat)(L:List vr):Prop where
 len:n=L.length
 cap:n≤c
 max:c≤maxLen
 at_:∀i,i<L.length→∃g o dv,A=some ⟨g,o,none⟩∧g<base∧(∀j u,(Oy (L.getD i default) dv)[j]? =some u→aM w g (o+i*12+j) u)∧cH w dv (L.getD i default).d∧(∀k,0<(L.getD i default).d.length→aJ dv k→k<base)
theorem kh.ar {S:Nat→Prop}{base:Nat}{w w':World}{A:Option Addr}{n c:Nat}{L:List vr}(h:kh base w A n c L)(ho:af S w w')(hS:∀k,k<base→¬S k):kh base w' A n c L:=
 ⟨h.len,h.cap,h.max,fun i hi=>by
  obtain⟨g,o,dv,rfl,hg,hc,hb,hk⟩:=h.at_ i hi;exact⟨g,o,dv,rfl,hg,fun j u hj=>ho.cell (hc j u hj) (hS g hg),hb.keep ho fun h0 k AX _=>hS k (hk k h0 AX),hk⟩⟩
theorem kh.keep {base:Nat}{w w':World}{A:Option Addr}{n c:Nat}{L:List vr}(h:kh base w A n c L)(ho:af au w w'):kh base w' A n c L:=h.ar ho fun _ _=>id
def Fw (h:Nat)(L:List vr):Bool:=decide (20<h)||decide (100<L.length)||L.any fun a=>decide (100<a.d.length)
theorem ZJ {h:Nat}{L:List vr}(e:Fw h L=false):h≤20∧L.length≤100∧∀i,i<L.length→(L.getD i default).d.length≤100:=by
 unfold Fw at e;simp only[Bool.or_eq_false_iff,decide_eq_false_iff_not,List.any_eq_false,decide_eq_true_eq]at e;refine⟨aj,aj,fun i hi=>?_⟩;have:=e.2 (L.getD i default) (by simp[hi]);omega
end Go.Proofs.YtpcfhbeakecihaaGreat

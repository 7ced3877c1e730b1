/- Lemmas. -/
import Derived.Test.YtpcfhbeakecihaaGreatM10
import Derived.Test.YtpcfhbeakecihaaGreatM12
set_option linter.all false
set_option maxHeartbeats 20000000
set_option maxRecDepth 100000
namespace Go.Proofs.YtpcfhbeakecihaaGreat
open Go.RowKit
structure lG where
 b9:Int
 m:ec
 d:List Int
instance:Inhabited lG:=⟨⟨0,⟨fun _=>0,false⟩,[]⟩⟩
def DT (a:lG)(dv:Value):Array Value:=#[ah a.b9,ah (a.m.f 0),ah (a.m.f 1),ah (a.m.f 2),ah (a.m.f 3),ah (a.m.f 4),ah (a.m.f 5),ah (a.m.f 6),ah (a.m.f 7),ah (a.m.f 8),.bool a.m.g,dv]
structure dN (base:Nat)(w:World)(A:Option Addr)(n c:Nat)(L:List lG):Prop where
 len:n=L.length
 cap:n≤c
 max:c≤maxLen
 at_:∀i,i<L.length→∃g o dv,A=some ⟨g,o,none⟩∧g<base∧(∀j u,(DT (L.getD i default) dv)[j]? =some u→ba w g (o+i*12+j) u)∧b8 w dv (L.getD i default).d∧(∀k,0<(L.getD i default).d.length→aJ dv k→k<base)
theorem dN.ao {S:Nat→Prop}{base:Nat}{w w':World}{A:Option Addr}{n c:Nat}{L:List lG}(h:dN base w A n c L)(ho:af S w w')(hS:∀k,k<base→¬S k):dN base w' A n c L:=
 ⟨h.len,h.cap,h.max,fun i hi=>by
  obtain⟨g,o,dv,rfl,hg,hc,hb,hk⟩:=h.at_ i hi;exact⟨g,o,dv,rfl,hg,fun j u hj=>ho.cell (hc j u hj) (hS g hg),hb.keep ho fun h0 k tQ _=>hS k (hk k h0 tQ),hk⟩⟩
theorem dN.keep {base:Nat}{w w':World}{A:Option Addr}{n c:Nat}{L:List lG}(h:dN base w A n c L)(ho:af aA w w'):dN base w' A n c L:=h.ao ho fun _ _=>id
def rE (h:Nat)(L:List lG):Bool:=decide (20<h)||decide (100<L.length)||L.any fun a=>decide (100<a.d.length)
theorem fm{P:Prop}(h:P:=by
 simp only[Bool.or_eq_false_iff,decide_eq_false_iff_not,List.any_eq_false,decide_eq_true_eq]at e;refine⟨ai,ai,fun i hi=>?_⟩;have:=e.2 (L.getD i default) (by simp[hi]);omega):P:=h
theorem EI {h:Nat}{L:List lG}(e:rE h L=false):h≤20∧L.length≤100∧∀i,i<L.length→(L.getD i default).d.length≤100:=by
 unfold rE at e;exact fm
end Go.Proofs.YtpcfhbeakecihaaGreat

/- Lemmas. -/
import Derived.Test.YtchofaecncibjaaGreatM10
import Derived.Test.YtchofaecncibjaaGreatM12
set_option linter.all false
set_option maxHeartbeats 20000000
set_option maxRecDepth 100000
namespace Go.Proofs.YtchofaecncibjaaGreat
open Go.RowKit
structure iO where
 kind:Int
 slot:Int
 wr:Bool
 m:di
 d:List Int
instance:Inhabited iO:=⟨⟨0,0,false,⟨fun _=>0,false⟩,[]⟩⟩
def bV (a:iO)(dv:Value):Array Value:=#[ah a.kind,ah a.slot,.bool a.wr,ah (a.m.f 0),ah (a.m.f 1),ah (a.m.f 2),ah (a.m.f 3),ah (a.m.f 4),ah (a.m.f 5),ah (a.m.f 6),ah (a.m.f 7),ah (a.m.f 8),.bool a.m.g,dv]
structure fO (base:Nat)(w:World)(A:Option Addr)(n c:Nat)(L:List iO):Prop where
 len:n=L.length
 cap:n≤c
 max:c≤maxLen
 at_:∀i,i<L.length→∃g o dv,A=some ⟨g,o,none⟩∧g<base∧(∀j u,(bV (L.getD i default) dv)[j]? =some u→aE w g (o+i*14+j) u)∧nD w dv (L.getD i default).d∧(∀k,0<(L.getD i default).d.length→aK dv k→k<base)
theorem fO.aA {S:Nat→Prop}{base:Nat}{w w':World}{A:Option Addr}{n c:Nat}{L:List iO}(h:fO base w A n c L)(ho:ag S w w')(hS:∀k,k<base→¬S k):fO base w' A n c L:=
 ⟨h.len,h.cap,h.max,fun i hi=>by
  obtain⟨g,o,dv,rfl,hg,hc,hb,hk⟩:=h.at_ i hi;exact⟨g,o,dv,rfl,hg,fun j u hj=>ho.cell (hc j u hj) (hS g hg),hb.keep ho fun h0 k UB _=>hS k (hk k h0 UB),hk⟩⟩
theorem fO.keep {base:Nat}{w w':World}{A:Option Addr}{n c:Nat}{L:List iO}(h:fO base w A n c L)(ho:ag az w w'):fO base w' A n c L:=h.aA ho fun _ _=>id
def xi (h:Nat)(L:List iO):Bool:=decide (20<h)||decide (120<L.length)||L.any fun a=>decide (100<a.d.length)
theorem tU {h:Nat}{L:List iO}(e:xi h L=false):h≤20∧L.length≤120∧∀i,i<L.length→(L.getD i default).d.length≤100:=by
 unfold xi at e;simp only[Bool.or_eq_false_iff,decide_eq_false_iff_not,List.any_eq_false,decide_eq_true_eq]at e;refine⟨ao,ao,fun i hi=>?_⟩;have:=e.2 (L.getD i default) (by simp[hi]);omega
end Go.Proofs.YtchofaecncibjaaGreat

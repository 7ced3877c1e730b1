/- Lemmas. -/
import Derived.Test.YtpcfhbeakecihaaGreatM6
import Derived.Lib.SmallJoins
set_option linter.all false
set_option maxHeartbeats 20000000
set_option maxRecDepth 100000
namespace Go.Proofs.YtpcfhbeakecihaaGreat
open Go.ChangeAt Go.ChangeShapes Go.Deep Go.RowKit Go.WideShapes
def zC (w:World)(A:Option Addr)(C i:Nat)(cs:List Value):Prop:=
 cs.length=C∧∃g o,A=some ⟨g,o,none⟩∧g<w.heap.size∧∀j,j<C→w.cell? ⟨g,o+i*C+j,none⟩=cs[j]?
section
variable {H:Type}{enc:TypeId×Value→H}{P:Program}{w:World}{base:Nat}{spare:Nat→Bool}{held:Bool}
end
def Fx (w:World)(A:Option Addr)(L:List (Int×Int×Int)):Prop:=
 ∀i,i<L.length→∃g o,A=some ⟨g,o,none⟩∧g<w.heap.size∧w.cell? ⟨g,o+i*3,none⟩=some (ah (L.getD i (0,0,0)).1)∧
  w.cell? ⟨g,o+i*3+1,none⟩=some (ah (L.getD i (0,0,0)).2.1)∧w.cell? ⟨g,o+i*3+2,none⟩=some (ah (L.getD i (0,0,0)).2.2)
theorem ja {α:Type}(n:Nat)(d:α)(R:Nat→α→Prop)(h:∀i,i<n→∃a,R i a):∃L:List α,L.length=n∧∀i,i<n→R i (L.getD i d):=by
 induction n with
 |zero=>exact⟨[],rfl,fun i hi=>absurd hi (Nat.not_lt_zero _)⟩
 |succ n ih=>
  obtain⟨L,hl,hL⟩:=ih fun i hi=>h i aj
  obtain⟨a,ha⟩:=h n aj;refine⟨L ++ [a],by simp[hl],fun i hi=>?_⟩
  by_cases bL:i<n
  ·have:(L ++ [a]).getD i d=L.getD i d:=by simp[List.getD,List.getElem?_append_left (show i<L.length by omega)]
   rw[this];exact hL i bL
  ·obtain rfl:i=n:=aj;have:(L ++ [a]).getD i d=a:=by subst hl;simp
   rw[this];exact ha
theorem Fx.keep {S:Nat→Prop}{w w':World}{A:Option Addr}{L:List (Int×Int×Int)}(h:Fx w A L)(ho:af S w w')(hS:∀k,k<w.heap.size→¬S k):Fx w' A L:=by
 intro i hi;obtain⟨g,o,e,hg,h0,h1,h2⟩:=h i hi;have hn:=hS g hg;exact⟨g,o,e,Nat.lt_of_lt_of_le hg ho.size,ho.cell h0 hn,ho.cell h1 hn,ho.cell h2 hn⟩
end Go.Proofs.YtpcfhbeakecihaaGreat

/- Lemmas. -/
import Derived.Test.YtpcfhbeakecihaaGreatM6
import Derived.Lib.SmallJoins
set_option linter.all false
set_option maxHeartbeats 20000000
set_option maxRecDepth 100000
namespace Go.Proofs.YtpcfhbeakecihaaGreat
open Go.ChangeAt Go.ChangeShapes Go.Deep Go.RowKit Go.WideShapes
def nh (w:World)(A:Option Addr)(C i:Nat)(cs:List Value):Prop:=
 cs.length=C∧∃g o,A=some ⟨g,o,none⟩∧g<w.heap.size∧∀j,j<C→w.cell? ⟨g,o+i*C+j,none⟩=cs[j]?
section
variable {H:Type}{enc:TypeId×Value→H}{P:Program}{w:World}{base:Nat}{spare:Nat→Bool}{held:Bool}
theorem fj{P:Prop}(h:P:=by
 by_cases hz:i*C=0
 ·have h0:=FB 0 FD;rw[hz]at h0;obtain⟨x,hx⟩:∃x,cs[0]? =some x:=⟨cs[0]'ai,List.getElem?_eq_getElem ai⟩;rw[hx]at h0;have:=World.cell?_spot h0;simpa [Addr.add] using this
 ·have N6:0<i:=Nat.pos_of_ne_zero fun e=>hz (by rw[e,Nat.zero_mul])
  obtain⟨K7,KI,_⟩:=hi 0 ai;rw[hC]at KI;obtain⟨_,MQ,Ji⟩:=World.cells?_some KI;have h0:=Ji 0 FD;obtain⟨x,hx⟩:∃x,K7[0]? =some x:=⟨K7[0]'ai,List.getElem?_eq_getElem ai⟩;rw[hx]at h0;have:=World.cell?_spot h0;simpa [Addr.add] using this):P:=h
theorem fU{P:Prop}(h:P:=by
 obtain⟨x,hx⟩:∃x,cs[0]? =some x:=⟨cs[0]'ai,List.getElem?_eq_getElem ai⟩;have h1:=hcell 0 FD;rw[hx]at h1;exact World.block_lt_of_cell? w _ h1):P:=h
theorem pd {r:Reach}{b0:Nat}{t e:TypeId}{C:Nat}{v:Value}{d:DataW H}{p:List MemPlace}(ht:P.underlying t=some (.slice e))(hC:P.cellsOf e=C)(FD:0<C)
 (hv:Value.okWide P w r b0 t v) (h:DataW.Trod enc P w base spare held t v d p):
 ∃A len cap n,v= .slice A len cap∧len≤cap∧cap≤maxLen∧∀i,i<len→∃cs y,nh w A C i cs∧DataW.trod enc P w base spare held n e cs=some y:=by
 obtain⟨A,len,cap,rfl⟩:=okWide_slice ht hv;obtain⟨fuel,hf⟩:=h;rcases open_slice ht hf with⟨h0,_⟩|⟨a,l,c,m,n,D,Pl,hcs,hb,hl,hm,w9,hx,hi⟩
 ·simp only[Value.cells,List.cons.injEq,and_true,Value.slice.injEq]at h0;obtain⟨rfl,rfl,rfl⟩:=h0;exact⟨none,0,0,0,rfl,dT _,eK _,fun i hi=>absurd hi (Nat.not_lt_zero _)⟩
 ·simp only[Value.cells,List.cons.injEq,and_true,Value.slice.injEq]at hcs;obtain⟨rfl,rfl,rfl⟩:=hcs;refine⟨some a,len,cap,n,rfl,hl,hm,fun i nO=>?_⟩;have pX:i<m:=by rw[w9];split<;>omega
  obtain⟨cs,hc,ub⟩:=hi i pX;rw[hC]at hc;obtain⟨_,hlen,FB⟩:=World.cells?_some hc;have ot:a.spot=none:=by
   exact fj
  obtain⟨g,o,sp⟩:=a;simp only at ot;subst ot;have hcell:∀j,j<C→w.cell? ⟨g,o+i*C+j,none⟩=cs[j]? :=fun j hj=>by
   have:=FB j hj;rw[add_add,Addr.add_lit]at this;rw[Nat.add_assoc];exact this
  have hg:g<w.heap.size:=by
   exact fU
  exact⟨cs,_,⟨hlen,g,o,rfl,hg,hcell⟩,ub⟩
theorem nx {e:TypeId}{fs:Array Field}{n:Nat}{cs:List Value}{y:DataW H×List MemPlace}(hs:P.underlying e=some (.struct fs))(lC:oneCellFields P fs=true)
 (h:DataW.trod enc P w base spare held n e cs=some y) (hl:cs.length=fs.size):∃m,∀(j:Nat) (f:Field),fs[j]? =some f→∃v y',cs[j]? =some v∧DataW.trod enc P w base spare held m f.type [v]=some y':=by
 obtain⟨xs,m,_,_,_,hlen,hf⟩:=DataW.trod_struct hs h;refine⟨m,fun j f hj=>?_⟩;obtain⟨ho,hk⟩:=hone_of lC j f hj;have Aj:j<fs.size:=(Array.getElem?_eq_some_iff.1 hj).1;have h1:=hf j f hj;rw[ho,hk]at h1;have hcs:(cs.drop j).take 1= [cs[j]'ai]:=by
  rw[List.drop_eq_getElem_cons ai];rfl
 rw[hcs]at h1;exact⟨_,_,List.getElem?_eq_getElem ai,h1.trans (List.getElem?_eq_getElem ai)⟩
end
def rG (w:World)(A:Option Addr)(L:List (Int×Int×Int)):Prop:=
 ∀i,i<L.length→∃g o,A=some ⟨g,o,none⟩∧g<w.heap.size∧w.cell? ⟨g,o+i*3,none⟩=some (ah (L.getD i (0,0,0)).1)∧
  w.cell? ⟨g,o+i*3+1,none⟩=some (ah (L.getD i (0,0,0)).2.1)∧w.cell? ⟨g,o+i*3+2,none⟩=some (ah (L.getD i (0,0,0)).2.2)
theorem dp {α:Type}(n:Nat)(d:α)(R:Nat→α→Prop)(h:∀i,i<n→∃a,R i a):∃L:List α,L.length=n∧∀i,i<n→R i (L.getD i d):=by
 induction n with
 |zero=>exact⟨[],rfl,fun i hi=>absurd hi (Nat.not_lt_zero _)⟩
 |succ n ih=>
  obtain⟨L,hl,hL⟩:=ih fun i hi=>h i ai
  obtain⟨a,ha⟩:=h n ai;refine⟨L ++ [a],by simp[hl],fun i hi=>?_⟩
  by_cases bI:i<n
  ·have:(L ++ [a]).getD i d=L.getD i d:=by simp[List.getD,List.getElem?_append_left (show i<L.length by omega)]
   rw[this];exact hL i bI
  ·obtain rfl:i=n:=ai;have:(L ++ [a]).getD i d=a:=by subst hl;simp
   rw[this];exact ha
theorem EB {H:Type}{enc:TypeId×Value→H}{P:Program}{w:World}{base:Nat}{spare:Nat→Bool}{held:Bool}{r:Reach}{b0:Nat}{t e ti:TypeId}{fs:Array Field}{v:Value}{d:DataW H}{p:List MemPlace}
 (ht:P.underlying t=some (.slice e)) (hC:P.cellsOf e=3) (hs:P.underlying e=some (.struct fs)) (lC:oneCellFields P fs=true) (hi:P.underlying ti=some (.int .i64))
 (KB:fs.map (fun f:Field=>f.type)=#[ti,ti,ti]) (hv:Value.okWide P w r b0 t v) (h:DataW.Trod enc P w base spare held t v d p):
 ∃A c L,v= .slice A (List.length L) c∧L.length≤c∧c≤maxLen∧rG w A L:=by
 obtain⟨A,len,cap,n,rfl,hl,hm,xb⟩:=pd ht hC av hv h;have hsz:fs.size=3:=by have:=congrArg Array.size KB;simpa using this
 have key:∀i,i<len→∃a:Int×Int×Int,∃g o,A=some ⟨g,o,none⟩∧g<w.heap.size∧w.cell? ⟨g,o+i*3,none⟩=some (ah a.1)∧
  w.cell? ⟨g,o+i*3+1,none⟩=some (ah a.2.1)∧w.cell? ⟨g,o+i*3+2,none⟩=some (ah a.2.2):=by
  intro i nO;obtain⟨cs,y,⟨rm,g,o,rfl,hg,hcell⟩,ub⟩:=xb i nO;obtain⟨m,hf⟩:=nx hs lC ub ai;have Ia:∀j,j<3→∃z,w.cell? ⟨g,o+i*3+j,none⟩=some (ah z):=by
   intro j hj;obtain⟨f,KC⟩:∃f:Field,fs[j]? =some f:=⟨fs[j]'ai,Array.getElem?_eq_getElem ai⟩;obtain⟨v,y',hv,J2⟩:=hf j f KC;have I3:f.type=ti:=by
    have h1:(fs.map (fun f:Field=>f.type))[j]? =some f.type:=by simp[KC]
    rw[KB]at h1;rcases(show j=0∨j=1∨j=2 by omega)with rfl|rfl|rfl<;>simpa using h1.symm
   rw[I3]at J2;obtain⟨z,hz,_,_⟩:=DataW.trod_int hi J2;simp only[List.cons.injEq,and_true]at hz;exact⟨z,by rw[hcell j hj,hv,hz]⟩
  obtain⟨z0,h0⟩:=Ia 0 ai;obtain⟨z1,h1⟩:=Ia 1 ai;obtain⟨z2,h2⟩:=Ia 2 ai;exact⟨(z0,z1,z2),g,o,rfl,hg,h0,h1,h2⟩
 obtain⟨L,hL,hR⟩:=dp len (0,0,0) _ key;subst hL;exact⟨A,cap,L,rfl,hl,hm,hR⟩
theorem rG.keep {S:Nat→Prop}{w w':World}{A:Option Addr}{L:List (Int×Int×Int)}(h:rG w A L)(ho:af S w w')(hS:∀k,k<w.heap.size→¬S k):rG w' A L:=by
 intro i hi;obtain⟨g,o,e,hg,h0,h1,h2⟩:=h i hi;have hn:=hS g hg;exact⟨g,o,e,Nat.lt_of_lt_of_le hg ho.size,ho.cell h0 hn,ho.cell h1 hn,ho.cell h2 hn⟩
theorem Gj {H:Type}{enc:TypeId×Value→H}{P:Program}{w:World}{base:Nat}{spare:Nat→Bool}{held:Bool}{r:Reach}{b0:Nat}{t ti:TypeId}{v:Value}{d:DataW H}{p:List MemPlace}
 (ht:P.underlying t=some (.array 2 ti)) (hC:P.cellsOf t=2) (hi:P.underlying ti=some (.int .i64)) (mL:P.cellsOf ti=1) (hv:Value.okWide P w r b0 t v) (h:DataW.Trod enc P w base spare held t v d p):
 ∃x y,v= .agg #[ah x,ah y]:=by
 simp only[Value.okWide,ht]at hv;obtain⟨cs,rfl,hsz,_⟩:=hv;obtain⟨c0,c1,rfl⟩:=Go.Joins.array2 (hsz.trans hC);obtain⟨fuel,hf⟩:=h;obtain⟨xs,m,_,_,_,hlen,hg⟩:=DataW.trod_array ht hf;have g0:=hg 0 av;have g1:=hg 1 av;rw[mL]at g0 g1;have x0:xs[0]? =some (xs[0]'ai):=List.getElem?_eq_getElem ai;have x1:xs[1]? =some (xs[1]'ai):=List.getElem?_eq_getElem ai;rw[x0]at g0;rw[x1]at g1;obtain⟨x,e0,_,_⟩:=DataW.trod_int hi g0;obtain⟨y,e1,_,_⟩:=DataW.trod_int hi g1;simp[Value.cells]at e0 e1;exact⟨x,y,by rw[e0,e1]⟩
end Go.Proofs.YtpcfhbeakecihaaGreat

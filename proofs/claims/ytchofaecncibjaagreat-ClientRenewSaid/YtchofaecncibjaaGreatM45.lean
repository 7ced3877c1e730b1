/- Lemmas. -/
import Derived.Test.YtchofaecncibjaaGreatM43
import Derived.Test.YtchofaecncibjaaGreatM44
import Derived.Deep.CutBlock
set_option linter.all false
set_option maxHeartbeats 20000000
set_option maxRecDepth 100000
namespace Go.Proofs.YtchofaecncibjaaGreat
open Go.ChangeShapes Go.RowKit Go.WideShapes
section
variable {c:aM}{hP:cK c}{hk:0<3}{Z Z':ZN}{w wr w2:World}{a a':cH (aQ c 0 hP hk)}{o o':cJ (aQ c 0 hP hk) c 0}{r r':kK}{N N':CM (aQ c 0 hP hk).σ}{Dr uO:Nat→List Int}{e1 e2 ZY e2':List nP}{k k' fI:Nat}{cv:Value}
structure ve (Z:ZN)(a:cH (aQ c 0 hP hk))(o:cJ (aQ c 0 hP hk) c 0)(r:kK)(N:CM (aQ c 0 hP hk).σ)(e1 e2:List nP)(Dr:Nat→List Int)(fI:Nat)(cv:Value)(k:Nat)(w wr:World):Prop where
 j:LJ Z a o r (N.wE e1) (N.wE e2) Dr wr
 B:Z.B=w.heap.size
 p:DF (aQ c 0 hP hk) c N k
 h1:e1.length≤k
 h2:e2.length≤k
 fr:∀j,tk a o r j→j≠fI
 cf:Box wr fI 25 (ak c cv)
 o:ag az w wr
theorem ve.keep (h:ve Z a o r N e1 e2 Dr fI cv k w wr)(ho:ag az wr w2):ve Z a o r N e1 e2 Dr fI cv k w w2:=⟨h.j.keep ho,h.B,h.p,h.h1,h.h2,h.fr,ho.aq h.cf id,h.o.trans ho⟩
theorem ve.step (h:ve Z a o r N e1 e2 Dr fI cv k w wr)(hj:LJ Z' a' o' r' (N'.wE ZY) (N'.wE e2') uO w2)(hs:zD a o r a' o' r' wr w2)(hB:Z'.B=Z.B)(hp:DF (aQ c 0 hP hk) c N' k')(q1:ZY.length≤k')(q2:e2'.length≤k'):ve Z' a' o' r' N' ZY e2' uO fI cv k' w w2 where
 j:=hj
 B:=hB.trans h.B
 p:=hp
 h1:=q1
 h2:=q2
 fr:=fun j hj=>(hs.W j hj).elim (fun e=>h.fr j e) fun e=>by have:=h.cf.lt;omega
 cf:=hs.o.aq h.cf fun e=>h.fr fI e rfl
 o:=h.o.aC hs.o fun j hj=>.inr (by rw[←h.B];exact h.j.lo hj)
theorem ve.act (h:ve Z a o r N e1 e2 Dr fI cv k w wr)(h0:(aQ c 0 hP hk).sp.eE (aQ c 0 hP hk).s0=0)(x:iO):DF (aQ c 0 hP hk) c ((lI (aQ c 0 hP hk) c N x).wE []) (k+1):=h.p.step hP a.i h0 x
theorem DF.mono (h:DF (aQ c 0 hP hk) c N k)(q:k≤k'):DF (aQ c 0 hP hk) c N k':=⟨h.en,h.sl,Nat.le_trans h.ops q,Nat.le_trans h.eE q⟩
theorem ve.mono (h:ve Z a o r N e1 e2 Dr fI cv k w wr)(q:k≤k'):ve Z a o r N e1 e2 Dr fI cv k' w wr:=⟨h.j,h.B,h.p.mono q,Nat.le_trans h.h1 q,Nat.le_trans h.h2 q,h.fr,h.cf,h.o⟩
theorem fO.ed {w w':World}{A:Option Addr}{n m:Nat}{L:List iO}(h:fO w.heap.size w A n m L)(ho:ag az w w')(hB:Z.B=w.heap.size){i:Nat}(hi:i<L.length):
 ∃g o1 dv,A=some ⟨g,o1,none⟩∧g<w.heap.size∧(∀j u,(bV (L.getD i default) dv)[j]? =some u→aE w' g (o1+i*14+j) u)∧cX Z w' dv (L.getD i default).d:=by
 obtain⟨g,o1,dv,e,hg,hc,hb,hd⟩:=(h.keep ho).at_ i hi;exact⟨g,o1,dv,e,hg,hc,hb,fun h0 k hk=>.inl (by rw[hB];exact hd k h0 hk)⟩
end
def lM:Array Value:=#[ah 0,ah 0,.bool false,ah 0,ah 0,ah 0,ah 0,ah 0,ah 0,ah 0,ah 0,ah 0,.bool false,aJ]
theorem tX (a:iO)(A:Option Addr)(n c:Nat):(bV a (.slice A n c)).all (·.oneCell')=true:=by simp[bV,Value.oneCell']
end Go.Proofs.YtchofaecncibjaaGreat

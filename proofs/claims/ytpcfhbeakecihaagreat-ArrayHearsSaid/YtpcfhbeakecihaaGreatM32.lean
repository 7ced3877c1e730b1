/- Lemmas. -/
import Derived.Test.YtpcfhbeakecihaaGreatM13
import Derived.Test.YtpcfhbeakecihaaGreatM14
import Derived.Test.YtpcfhbeakecihaaGreatM31
set_option linter.all false
set_option maxHeartbeats 20000000
set_option maxRecDepth 100000
namespace Go.Proofs.YtpcfhbeakecihaaGreat
open Go.ChangeAt Go.ChangeShapes Go.Deep Go.RowKit Go.WideShapes
section
variable {H:Type}{enc:TypeId×Value→H}{w:World}{base:Nat}{spare:Nat→Bool}{held:Bool}
theorem yk {n:Nat}{cs:List Value}{y:DataW H×List MemPlace}(hf:DataW.trod enc Tryz.prog w base spare held n 37 cs=some y)(hz:Small Tryz.prog 37 y.1)(hsz:cs.length=11):
 ∃m dv l,cs=(bd m dv).toList∧cH w dv l∧(∀k,0<l.length→aJ dv k→k<w.heap.size)∧jX l:=by
 obtain⟨m,hm⟩:=kV Tryz.underlying37 aS hf hz hsz;obtain⟨v0,y0,h0,t0,_⟩:=hm 0 _ rfl;obtain⟨v1,y1,h1,t1,_⟩:=hm 1 _ rfl;obtain⟨v2,y2,h2,t2,_⟩:=hm 2 _ rfl;obtain⟨v3,y3,h3,t3,_⟩:=hm 3 _ rfl;obtain⟨v4,y4,h4,t4,_⟩:=hm 4 _ rfl;obtain⟨v5,y5,h5,t5,_⟩:=hm 5 _ rfl;obtain⟨v6,y6,h6,t6,_⟩:=hm 6 _ rfl;obtain⟨v7,y7,h7,t7,_⟩:=hm 7 _ rfl;obtain⟨v8,y8,h8,t8,_⟩:=hm 8 _ rfl;obtain⟨v9,y9,h9,t9,_⟩:=hm 9 _ rfl;obtain⟨v10,y10,WN,t10,s10⟩:=hm 10 _ rfl;obtain⟨z0,e0,_,_⟩:=DataW.trod_int Tryz.underlying3 t0;obtain⟨z1,e1,_,_⟩:=DataW.trod_int Tryz.underlying3 t1;obtain⟨z2,e2,_,_⟩:=DataW.trod_int Tryz.underlying3 t2;obtain⟨z3,e3,_,_⟩:=DataW.trod_int Tryz.underlying3 t3;obtain⟨z4,e4,_,_⟩:=DataW.trod_int Tryz.underlying3 t4;obtain⟨z5,e5,_,_⟩:=DataW.trod_int Tryz.underlying3 t5;obtain⟨z6,e6,_,_⟩:=DataW.trod_int Tryz.underlying3 t6;obtain⟨z7,e7,_,_⟩:=DataW.trod_int Tryz.underlying3 t7;obtain⟨z8,e8,_,_⟩:=DataW.trod_int Tryz.underlying32 t8;obtain⟨z9,e9,_⟩:=DataW.trod_bool Tryz.underlying4 t9;obtain⟨v,l,qO,hb,tZ,aY⟩:=rY Tryz.underlying35 aS Tryz.underlying5 aS t10 s10;simp only[List.cons.injEq,and_true]at e0 e1 e2 e3 e4 e5 e6 e7 e8 e9 qO;subst e0 e1 e2 e3 e4 e5 e6 e7 e8 e9 qO;refine⟨⟨fun i=>[z0,z1,z2,z3,z4,z5,z6,z7,z8].getD i 0,z9⟩,v10,l,?_,hb,fun k h0=>aY h0 k,tZ⟩;refine List.ext_getElem? fun i=>?_
 by_cases hi:i<11
 ·rcases(show i=0∨i=1∨i=2∨i=3∨i=4∨i=5∨i=6∨i=7∨i=8∨i=9∨i=10 by omega)with rfl|rfl|rfl|rfl|rfl|rfl|rfl|rfl|rfl|rfl|rfl
  ·exact h0
  ·exact h1
  ·exact h2
  ·exact h3
  ·exact h4
  ·exact h5
  ·exact h6
  ·exact h7
  ·exact h8
  ·exact h9
  ·exact WN
 ·rw[List.getElem?_eq_none aj,List.getElem?_eq_none (by simpa [bd] using hi)]
theorem Cr {fuel:Nat}{cs:List Value}{y:DataW H×List MemPlace}(hf:DataW.trod enc Tryz.prog w base spare held fuel 26 cs=some y)(hz:Small Tryz.prog 26 y.1):
 ∃A c L,cs= [.slice A (List.length L) c]∧kh w.heap.size w A L.length c L∧∀i,i<L.length→jX (L.getD i default).d:=by
 obtain⟨A,len,cap,n,rfl,hl,hm,hsz,NI⟩:=rN (C:=12) Tryz.underlying26 aS aE hf hz;have key:∀i,i<len→∃a:vr,∃g o dv,A=some ⟨g,o,none⟩∧g<w.heap.size∧(∀j u,(Oy a dv)[j]? =some u→w.cell? ⟨g,o+i*12+j,none⟩=some u)∧cH w dv a.d∧(∀k,0<a.d.length→aJ dv k→k<w.heap.size)∧jX a.d:=by
  intro i Ax;obtain⟨cs',y',⟨pE,g,o,rfl,hg,hcell⟩,JW,MW⟩:=NI i Ax;obtain⟨xs,m,_,rfl,_,hlen,hx⟩:=DataW.trod_struct Tryz.underlying39 JW;have hlen:xs.length=2:=hlen;simp only[Small,DataW.weights,Tryz.underlying39]at MW;have yV:Tryz.prog.cellsOf 3=1:=by kernel_rfl
  have Z4:∀j,j<2→∃y,xs[j]? =some y:=fun j hj=>⟨xs[j]'aj,List.getElem?_eq_getElem aj⟩
  obtain⟨y0,QG⟩:=Z4 0 aE;obtain⟨z0,uS⟩:=dM (o:=0) Tryz.underlying3 yV (hx 0 _ rfl) QG;obtain⟨y3,Z3⟩:=Z4 1 aE;have h3:=(hx 1 _ rfl).trans Z3;have h3':DataW.trod enc Tryz.prog w base spare held m 37 ((cs'.drop 1).take 11)=some y3:=by rw[show 11=Tryz.prog.cellsOf 37 from by kernel_rfl];exact h3
  have Gd:Small Tryz.prog 37 y3.1:=rM MW (j:=1) rfl (by rw[List.getElem?_map,Z3];rfl);obtain⟨mm,dv,d,em,iq,aY,tZ⟩:=yk h3' Gd (by rw[List.length_take,List.length_drop];omega);have hmj:∀j,j<11→cs'[1+j]? =(bd mm dv)[j]? :=fun j hj=>by
   have:((cs'.drop 1).take 11)[j]? =cs'[1+j]? :=by rw[List.getElem?_take_of_lt hj,List.getElem?_drop]
   rw[←this,em,Array.getElem?_toList]
  refine⟨⟨z0,mm,d⟩,g,o,dv,rfl,hg,fun j u hj=>?_,iq,aY,tZ⟩;have aaR:j<12:=(Array.getElem?_eq_some_iff.1 hj).1;rw[hcell j aaR];rcases(show j=0∨1≤j by omega)with rfl|h9
  ·exact uS.trans hj
  ·obtain⟨q,rfl⟩:∃q,j=1+q:=⟨j - 1,aj⟩;rw[hmj q aj,←hj];rcases(show q=0∨q=1∨q=2∨q=3∨q=4∨q=5∨q=6∨q=7∨q=8∨q=9∨q=10 by omega)with rfl|rfl|rfl|rfl|rfl|rfl|rfl|rfl|rfl|rfl|rfl<;>rfl
 obtain⟨L,hL,hR⟩:=ja len default _ key;subst hL;exact⟨A,cap,L,rfl,⟨rfl,hl,hm,fun i hi=>by obtain⟨g,o,dv,q1,q2,q3,q4,q5,_⟩:=hR i hi;exact⟨g,o,dv,q1,q2,q3,q4,q5⟩⟩,fun i hi=>by obtain⟨_,_,_,_,_,_,_,_,q6⟩:=hR i hi;exact q6⟩
theorem Ug {r:Reach}{b0:Nat}{v:Value}{d:DataW H}{p:List MemPlace}(hv:Value.okWide Tryz.prog w r b0 26 v)(h:DataW.Trod enc Tryz.prog w base spare held 26 v d p)(hz:Small Tryz.prog 26 d):
 ∃A c L,v= .slice A (List.length L) c∧kh w.heap.size w A L.length c L∧∀i,i<L.length→jX (L.getD i default).d:=by
 obtain⟨A,len,cap,rfl⟩:=okWide_slice Tryz.underlying26 hv;obtain⟨fuel,hf⟩:=h;obtain⟨A',c,L,e1,h1⟩:=Cr hf hz;refine⟨A',c,L,?_,h1⟩;simpa [Value.cells] using e1
end
end Go.Proofs.YtpcfhbeakecihaaGreat

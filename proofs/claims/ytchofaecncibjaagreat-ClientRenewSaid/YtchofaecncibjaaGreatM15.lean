/- Lemmas. -/
import Derived.Test.YtchofaecncibjaaGreatM13
import Derived.Test.YtchofaecncibjaaGreatM14
set_option linter.all false
set_option maxHeartbeats 20000000
set_option maxRecDepth 100000
namespace Go.Proofs.YtchofaecncibjaaGreat
open Go.ChangeAt Go.ChangeShapes Go.Deep Go.RowKit Go.WideShapes
section
variable {H:Type}{enc:TypeId×Value→H}{w:World}{base:Nat}{spare:Nat→Bool}{held:Bool}
theorem TH {n:Nat}{cs:List Value}{y:DataW H×List MemPlace}(hf:DataW.trod enc Tryz.prog w base spare held n 37 cs=some y)(hz:Small Tryz.prog 37 y.1)(hsz:cs.length=11):
 ∃m dv l,cs=(aP m dv).toList∧nD w dv l∧(∀k,0<l.length→aK dv k→k<w.heap.size):=by
 obtain⟨m,hm⟩:=zY Tryz.underlying37 bZ hf hz hsz;obtain⟨v0,y0,h0,t0,_⟩:=hm 0 _ rfl;obtain⟨v1,y1,h1,t1,_⟩:=hm 1 _ rfl;obtain⟨v2,y2,h2,t2,_⟩:=hm 2 _ rfl;obtain⟨v3,y3,h3,t3,_⟩:=hm 3 _ rfl;obtain⟨v4,y4,h4,t4,_⟩:=hm 4 _ rfl;obtain⟨v5,y5,h5,t5,_⟩:=hm 5 _ rfl;obtain⟨v6,y6,h6,t6,_⟩:=hm 6 _ rfl;obtain⟨v7,y7,h7,t7,_⟩:=hm 7 _ rfl;obtain⟨v8,y8,h8,t8,_⟩:=hm 8 _ rfl;obtain⟨v9,y9,h9,t9,_⟩:=hm 9 _ rfl;obtain⟨v10,P6,h10,t10,s10⟩:=hm 10 _ rfl;obtain⟨z0,e0,_,_⟩:=DataW.trod_int Tryz.underlying3 t0;obtain⟨z1,e1,_,_⟩:=DataW.trod_int Tryz.underlying3 t1;obtain⟨z2,e2,_,_⟩:=DataW.trod_int Tryz.underlying3 t2;obtain⟨z3,e3,_,_⟩:=DataW.trod_int Tryz.underlying3 t3;obtain⟨z4,e4,_,_⟩:=DataW.trod_int Tryz.underlying3 t4;obtain⟨z5,e5,_,_⟩:=DataW.trod_int Tryz.underlying3 t5;obtain⟨z6,e6,_,_⟩:=DataW.trod_int Tryz.underlying3 t6;obtain⟨z7,e7,_,_⟩:=DataW.trod_int Tryz.underlying3 t7;obtain⟨z8,e8,_,_⟩:=DataW.trod_int Tryz.underlying30 t8;obtain⟨z9,e9,_⟩:=DataW.trod_bool Tryz.underlying4 t9;obtain⟨v,l,e10,hb,_,aY⟩:=L8 Tryz.underlying35 bZ Tryz.underlying5 bZ t10 s10;simp only[List.cons.injEq,and_true]at e0 e1 e2 e3 e4 e5 e6 e7 e8 e9 e10;subst e0 e1 e2 e3 e4 e5 e6 e7 e8 e9 e10;refine⟨⟨fun i=>[z0,z1,z2,z3,z4,z5,z6,z7,z8].getD i 0,z9⟩,v10,l,?_,hb,fun k h0=>aY h0 k⟩;refine List.ext_getElem? fun i=>?_
 by_cases hi:i<11
 ·rcases(show i=0∨i=1∨i=2∨i=3∨i=4∨i=5∨i=6∨i=7∨i=8∨i=9∨i=10 by omega)with rfl|rfl|rfl|rfl|rfl|rfl|rfl|rfl|rfl|rfl|rfl
  ·exact h0
  ·exact h1
  ·exact h2
  ·exact h3
  ·exact h4
  ·exact h5
  ·exact h6
  ·exact h7
  ·exact h8
  ·exact h9
  ·exact h10
 ·rw[List.getElem?_eq_none ao,List.getElem?_eq_none (by simpa [aP] using hi)]
theorem LQ {fuel:Nat}{cs:List Value}{y:DataW H×List MemPlace}(hf:DataW.trod enc Tryz.prog w base spare held fuel 26 cs=some y)(hz:Small Tryz.prog 26 y.1):
 ∃A c L,cs= [.slice A (List.length L) c]∧fO w.heap.size w A L.length c L:=by
 obtain⟨A,len,cap,n,rfl,hl,hm,hsz,hel⟩:=vX (C:=14) Tryz.underlying26 bZ aD hf hz;have key:∀i,i<len→∃a:iO,∃g o dv,A=some ⟨g,o,none⟩∧g<w.heap.size∧(∀j u,(bV a dv)[j]? =some u→w.cell? ⟨g,o+i*14+j,none⟩=some u)∧nD w dv a.d∧(∀k,0<a.d.length→aK dv k→k<w.heap.size):=by
  intro i lJ;obtain⟨cs',y',⟨jU,g,o,rfl,hg,hcell⟩,Zy,Uy⟩:=hel i lJ;obtain⟨xs,m,_,rfl,_,hlen,hx⟩:=DataW.trod_struct Tryz.underlying39 Zy;have hlen:xs.length=4:=hlen;simp only[Small,DataW.weights,Tryz.underlying39]at Uy;have F8:Tryz.prog.cellsOf 3=1:=by kernel_rfl
  have hxs:∀j,j<4→∃y,xs[j]? =some y:=fun j hj=>⟨xs[j]'ao,List.getElem?_eq_getElem ao⟩
  obtain⟨y0,Ya⟩:=hxs 0 aD;obtain⟨z0,yl⟩:=eS (o:=0) Tryz.underlying3 F8 (hx 0 _ rfl) Ya;obtain⟨y1,Dx⟩:=hxs 1 aD;obtain⟨z1,CK⟩:=eS (o:=1) Tryz.underlying3 F8 (hx 1 _ rfl) Dx;obtain⟨y2,NC⟩:=hxs 2 aD;have h2:=(hx 2 _ rfl).trans NC;have e2:(cs'.drop 2).take (Tryz.prog.cellsOf 4)= [cs'[2]'ao]:=by
   rw[show Tryz.prog.cellsOf 4=1 from by kernel_rfl,List.drop_eq_getElem_cons ao];rfl
  have h2':DataW.trod enc Tryz.prog w base spare held m 4 [cs'[2]'ao]=some y2:=by rw[←e2];exact h2
  obtain⟨z2,e2',_⟩:=DataW.trod_bool Tryz.underlying4 h2';simp only[List.cons.injEq,and_true]at e2';have Ay:cs'[2]? =some (.bool z2):=by rw[List.getElem?_eq_getElem ao,e2']
  obtain⟨y3,hy3⟩:=hxs 3 aD;have h3:=(hx 3 _ rfl).trans hy3;have h3':DataW.trod enc Tryz.prog w base spare held m 37 ((cs'.drop 3).take 11)=some y3:=by rw[show 11=Tryz.prog.cellsOf 37 from by kernel_rfl];exact h3
  have hs3:Small Tryz.prog 37 y3.1:=dZ Uy (j:=3) rfl (by rw[List.getElem?_map,hy3];rfl);obtain⟨mm,dv,d,em,kv,aY⟩:=TH h3' hs3 (by rw[List.length_take,List.length_drop];omega);have hmj:∀j,j<11→cs'[3+j]? =(aP mm dv)[j]? :=fun j hj=>by
   have:((cs'.drop 3).take 11)[j]? =cs'[3+j]? :=by rw[List.getElem?_take_of_lt hj,List.getElem?_drop]
   rw[←this,em,Array.getElem?_toList]
  refine⟨⟨z0,z1,z2,mm,d⟩,g,o,dv,rfl,hg,fun j u hj=>?_,kv,aY⟩;have aff:j<14:=(Array.getElem?_eq_some_iff.1 hj).1;rw[hcell j aff];rcases(show j=0∨j=1∨j=2∨3≤j by omega)with rfl|rfl|rfl|h9
  ·exact yl.trans hj
  ·exact CK.trans hj
  ·exact Ay.trans hj
  ·obtain⟨q,rfl⟩:∃q,j=3+q:=⟨j - 3,ao⟩;rw[hmj q ao,←hj];rcases(show q=0∨q=1∨q=2∨q=3∨q=4∨q=5∨q=6∨q=7∨q=8∨q=9∨q=10 by omega)with rfl|rfl|rfl|rfl|rfl|rfl|rfl|rfl|rfl|rfl|rfl<;>rfl
 obtain⟨L,hL,hR⟩:=nZ len default _ key;subst hL;exact⟨A,cap,L,rfl,rfl,hl,hm,hR⟩
theorem pf {r:Reach}{b0:Nat}{v:Value}{d:DataW H}{p:List MemPlace}(hv:Value.okWide Tryz.prog w r b0 26 v)(h:DataW.Trod enc Tryz.prog w base spare held 26 v d p)(hz:Small Tryz.prog 26 d):
 ∃A c L,v= .slice A (List.length L) c∧fO w.heap.size w A L.length c L:=by
 obtain⟨A,len,cap,rfl⟩:=okWide_slice Tryz.underlying26 hv;obtain⟨fuel,hf⟩:=h;obtain⟨A',c,L,e1,h1⟩:=LQ hf hz;refine⟨A',c,L,?_,h1⟩;simpa [Value.cells] using e1
end
end Go.Proofs.YtchofaecncibjaaGreat

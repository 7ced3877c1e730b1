/- texts ArgZ -/
import Derived.Test.YtpcfhbeakecihaaGreatM13
import Derived.Test.YtpcfhbeakecihaaGreatM14
import Derived.Test.YtpcfhbeakecihaaGreatM10
import Derived.Test.YtpcfhbeakecihaaGreatM32
import Derived.Test.YtpcfhbeakecihaaGreatM3
import Derived.Test.YtpcfhbeakecihaaGreatM2
import Derived.Test.YtpcfhbeakecihaaGreatM1
import Derived.Test.YtpcfhbeakecihaaGreatM4
import Derived.Test.YtpcfhbeakecihaaGreatM5
set_option linter.all false
set_option maxHeartbeats 20000000
set_option maxRecDepth 100000
namespace Go.Proofs.YtpcfhbeakecihaaGreat
open Go.ChangeShapes Go.WideShapes Go.ChangeAt Go.RowKit Go.Deep
section
variable {H:Type}{enc:TypeId×Value→H}{w:World}{base:Nat}{spare:Nat→Bool}{held:Bool}
theorem msg_listB {n:Nat}{cs:List Value}{y:DataW H×List MemPlace}(hf:DataW.trod enc Tryz.prog w base spare held n 37 cs=some y)(hz:Small Tryz.prog 37 y.1)(hsz:cs.length=11):
 ∃m dv l,cs=(bc m dv).toList∧b8 w dv l∧(∀k,0<l.length→aJ dv k→k<w.heap.size)∧sm l:=by
 obtain⟨m,hm⟩:=ek Tryz.underlying37 (by kernel_rfl) hf hz hsz;obtain⟨v0,y0,h0,t0,_⟩:=hm 0 _ rfl;obtain⟨v1,y1,h1,t1,_⟩:=hm 1 _ rfl;obtain⟨v2,y2,h2,t2,_⟩:=hm 2 _ rfl;obtain⟨v3,y3,h3,t3,_⟩:=hm 3 _ rfl;obtain⟨v4,y4,h4,t4,_⟩:=hm 4 _ rfl;obtain⟨v5,y5,h5,t5,_⟩:=hm 5 _ rfl;obtain⟨v6,y6,h6,t6,_⟩:=hm 6 _ rfl;obtain⟨v7,y7,h7,t7,_⟩:=hm 7 _ rfl;obtain⟨v8,y8,h8,t8,_⟩:=hm 8 _ rfl;obtain⟨v9,y9,h9,t9,_⟩:=hm 9 _ rfl;obtain⟨v10,Gy,C5,t10,GD⟩:=hm 10 _ rfl;obtain⟨z0,e0,_,_⟩:=DataW.trod_int Tryz.underlying3 t0;obtain⟨z1,e1,_,_⟩:=DataW.trod_int Tryz.underlying3 t1;obtain⟨z2,e2,_,_⟩:=DataW.trod_int Tryz.underlying3 t2;obtain⟨z3,e3,_,_⟩:=DataW.trod_int Tryz.underlying3 t3;obtain⟨z4,e4,_,_⟩:=DataW.trod_int Tryz.underlying3 t4;obtain⟨z5,e5,_,_⟩:=DataW.trod_int Tryz.underlying3 t5;obtain⟨z6,e6,_,_⟩:=DataW.trod_int Tryz.underlying3 t6;obtain⟨z7,e7,_,_⟩:=DataW.trod_int Tryz.underlying3 t7;obtain⟨z8,e8,_,_⟩:=DataW.trod_int Tryz.underlying32 t8;obtain⟨z9,e9,_⟩:=DataW.trod_bool Tryz.underlying4 t9;obtain⟨v,l,C7,hb,BX,aO⟩:=iZ Tryz.underlying35 (by kernel_rfl) Tryz.underlying5 (by kernel_rfl) t10 GD;simp only[List.cons.injEq,and_true]at e0 e1 e2 e3 e4 e5 e6 e7 e8 e9 C7;subst e0 e1 e2 e3 e4 e5 e6 e7 e8 e9 C7;refine⟨⟨fun i=>[z0,z1,z2,z3,z4,z5,z6,z7,z8].getD i 0,z9⟩,v10,l,?_,hb,fun k h0=>aO h0 k,BX⟩;refine List.ext_getElem? fun i=>?_
 by_cases hi:i<11
 ·rcases(show i=0∨i=1∨i=2∨i=3∨i=4∨i=5∨i=6∨i=7∨i=8∨i=9∨i=10 by omega)with rfl|rfl|rfl|rfl|rfl|rfl|rfl|rfl|rfl|rfl|rfl
  ·exact h0
  ·exact h1
  ·exact h2
  ·exact h3
  ·exact h4
  ·exact h5
  ·exact h6
  ·exact h7
  ·exact h8
  ·exact h9
  ·exact C5
 ·rw[List.getElem?_eq_none (by omega),List.getElem?_eq_none (by simpa [bc] using hi)]
theorem yactsb_trod {fuel:Nat}{cs:List Value}{y:DataW H×List MemPlace}(hf:DataW.trod enc Tryz.prog w base spare held fuel 26 cs=some y)(hz:Small Tryz.prog 26 y.1):
 ∃A c L,cs= [.slice A (List.length L) c]∧dN w.heap.size w A L.length c L∧∀i,i<L.length→sm (L.getD i default).d:=by
 obtain⟨A,len,cap,n,rfl,hl,hm,hsz,xb⟩:=iO (C:=12) Tryz.underlying26 (by kernel_rfl) (by decide) hf hz;have key:∀i,i<len→∃a:lG,∃g o dv,A=some ⟨g,o,none⟩∧g<w.heap.size∧(∀j u,(DT a dv)[j]? =some u→w.cell? ⟨g,o+i*12+j,none⟩=some u)∧b8 w dv a.d∧(∀k,0<a.d.length→aJ dv k→k<w.heap.size)∧sm a.d:=by
  intro i nO;obtain⟨cs',y',⟨rm,g,o,rfl,hg,hcell⟩,ub,wD⟩:=xb i nO;obtain⟨xs,m,_,rfl,_,hlen,hx⟩:=DataW.trod_struct Tryz.underlying39 ub;have hlen:xs.length=2:=hlen;simp only[Small,DataW.weights,Tryz.underlying39]at wD;have mL:Tryz.prog.cellsOf 3=1:=by kernel_rfl
  have E0:∀j,j<2→∃y,xs[j]? =some y:=fun j hj=>⟨xs[j]'(by omega),List.getElem?_eq_getElem (by omega)⟩
  obtain⟨y0,yV⟩:=E0 0 (by decide);obtain⟨z0,pV⟩:=bC (o:=0) Tryz.underlying3 mL (hx 0 _ rfl) yV;obtain⟨y3,EZ⟩:=E0 1 (by decide);have h3:=(hx 1 _ rfl).trans EZ;have Ov:DataW.trod enc Tryz.prog w base spare held m 37 ((cs'.drop 1).take 11)=some y3:=by rw[show 11=Tryz.prog.cellsOf 37 from by kernel_rfl];exact h3
  have wZ:Small Tryz.prog 37 y3.1:=iN wD (j:=1) rfl (by rw[List.getElem?_map,EZ];rfl);obtain⟨mm,dv,d,em,eE,aO,BX⟩:=msg_listB Ov wZ (by rw[List.length_take,List.length_drop];omega);have NS:∀j,j<11→cs'[1+j]? =(bc mm dv)[j]? :=fun j hj=>by
   have:((cs'.drop 1).take 11)[j]? =cs'[1+j]? :=by rw[List.getElem?_take_of_lt hj,List.getElem?_drop]
   rw[←this,em,Array.getElem?_toList]
  refine⟨⟨z0,mm,d⟩,g,o,dv,rfl,hg,fun j u hj=>?_,eE,aO,BX⟩;have Jb:j<12:=(Array.getElem?_eq_some_iff.1 hj).1;rw[hcell j Jb];rcases(show j=0∨1≤j by omega)with rfl|h9
  ·exact pV.trans hj
  ·obtain⟨q,rfl⟩:∃q,j=1+q:=⟨j - 1,by omega⟩;rw[NS q (by omega),←hj];rcases(show q=0∨q=1∨q=2∨q=3∨q=4∨q=5∨q=6∨q=7∨q=8∨q=9∨q=10 by omega)with rfl|rfl|rfl|rfl|rfl|rfl|rfl|rfl|rfl|rfl|rfl<;>rfl
 obtain⟨L,hL,hR⟩:=dp len default _ key;subst hL;exact⟨A,cap,L,rfl,⟨rfl,hl,hm,fun i hi=>by obtain⟨g,o,dv,q1,q2,q3,q4,q5,_⟩:=hR i hi;exact⟨g,o,dv,q1,q2,q3,q4,q5⟩⟩,fun i hi=>by obtain⟨_,_,_,_,_,_,_,_,q6Zq⟩:=hR i hi;exact q6Zq⟩
theorem yactsb_val {r:Reach}{b0:Nat}{v:Value}{d:DataW H}{p:List MemPlace}(hv:Value.okWide Tryz.prog w r b0 26 v)(h:DataW.Trod enc Tryz.prog w base spare held 26 v d p)(hz:Small Tryz.prog 26 d):
 ∃A c L,v= .slice A (List.length L) c∧dN w.heap.size w A L.length c L∧∀i,i<L.length→sm (L.getD i default).d:=by
 obtain⟨A,len,cap,rfl⟩:=okWide_slice Tryz.underlying26 hv;obtain⟨fuel,hf⟩:=h;obtain⟨A',c,L,e1,h1⟩:=yactsb_trod hf hz;refine⟨A',c,L,?_,h1⟩;simpa [Value.cells] using e1
theorem msg_valB {r:Reach}{b0:Nat}{v:Value}{d:DataW H}{p:List MemPlace}(hv:Value.okWide Tryz.prog w r b0 37 v)(h:DataW.Trod enc Tryz.prog w base spare held 37 v d p)(hz:Small Tryz.prog 37 d):
 ∃m A c l,v= .agg (bc m (.slice A (List.length l) c))∧pZ ⟨w.heap.size,fun _=>False⟩ w (.slice A l.length c) l∧sm l:=by
 obtain⟨cs,rfl,hsz⟩:=okWide_struct Tryz.underlying37 hv;have hsz:cs.size=11:=hsz.trans (by kernel_rfl);obtain⟨fuel,hf⟩:=h;obtain⟨m,dv,l,e,hb,hl,hi⟩:=msg_listB hf hz (by simpa [Value.cells] using hsz);obtain⟨A,c,rfl,_⟩:=id hb;refine⟨m,A,c,l,?_,⟨hb,fun h0 k hk=>.inl (hl k h0 hk)⟩,hi⟩;rw[Value.agg.injEq];exact Array.ext' (by simpa [Value.cells] using e)
end
end Go.Proofs.YtpcfhbeakecihaaGreat

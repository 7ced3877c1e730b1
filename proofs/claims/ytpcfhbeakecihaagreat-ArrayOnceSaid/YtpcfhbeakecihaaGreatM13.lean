/- Lemmas. -/
import Derived.Test.YtpcfhbeakecihaaGreatM11
import Derived.Test.YtpcfhbeakecihaaGreatM12
set_option linter.all false
set_option maxHeartbeats 20000000
set_option maxRecDepth 100000
namespace Go.Proofs.YtpcfhbeakecihaaGreat
open Go.ChangeAt Go.ChangeShapes Go.Deep Go.RowKit Go.WideShapes
section
variable {H:Type}{enc:TypeId×Value→H}{w:World}{base:Nat}{spare:Nat→Bool}{held:Bool}
theorem fl{P:Prop}(h:P:=by
 rcases(show i=0∨i=1∨i=2∨i=3∨i=4∨i=5∨i=6∨i=7∨i=8∨i=9∨i=10 by omega)with rfl|rfl|rfl|rfl|rfl|rfl|rfl|rfl|rfl|rfl|rfl
 ·exact h0
 ·exact h1
 ·exact h2
 ·exact h3
 ·exact h4
 ·exact h5
 ·exact h6
 ·exact h7
 ·exact h8
 ·exact h9
 ·exact C5):P:=h
theorem Gn {r:Reach}{b0:Nat}{v:Value}{d:DataW H}{p:List MemPlace}(hv:Value.okWide Tryz.prog w r b0 37 v)(h:DataW.Trod enc Tryz.prog w base spare held 37 v d p)(hz:Small Tryz.prog 37 d):
 ∃m A c l,v= .agg (bc m (.slice A (List.length l) c))∧b8 w (.slice A l.length c) l:=by
 obtain⟨cs,rfl,hsz⟩:=okWide_struct Tryz.underlying37 hv;have hsz:cs.size=11:=hsz.trans bJ;obtain⟨fuel,hf⟩:=h;obtain⟨m,hm⟩:=ek Tryz.underlying37 bJ hf hz hsz;obtain⟨v0,y0,h0,t0,_⟩:=hm 0 _ rfl;obtain⟨v1,y1,h1,t1,_⟩:=hm 1 _ rfl;obtain⟨v2,y2,h2,t2,_⟩:=hm 2 _ rfl;obtain⟨v3,y3,h3,t3,_⟩:=hm 3 _ rfl;obtain⟨v4,y4,h4,t4,_⟩:=hm 4 _ rfl;obtain⟨v5,y5,h5,t5,_⟩:=hm 5 _ rfl;obtain⟨v6,y6,h6,t6,_⟩:=hm 6 _ rfl;obtain⟨v7,y7,h7,t7,_⟩:=hm 7 _ rfl;obtain⟨v8,y8,h8,t8,_⟩:=hm 8 _ rfl;obtain⟨v9,y9,h9,t9,_⟩:=hm 9 _ rfl;obtain⟨v10,Gy,C5,t10,GD⟩:=hm 10 _ rfl;obtain⟨z0,e0,_,_⟩:=DataW.trod_int Tryz.underlying3 t0;obtain⟨z1,e1,_,_⟩:=DataW.trod_int Tryz.underlying3 t1;obtain⟨z2,e2,_,_⟩:=DataW.trod_int Tryz.underlying3 t2;obtain⟨z3,e3,_,_⟩:=DataW.trod_int Tryz.underlying3 t3;obtain⟨z4,e4,_,_⟩:=DataW.trod_int Tryz.underlying3 t4;obtain⟨z5,e5,_,_⟩:=DataW.trod_int Tryz.underlying3 t5;obtain⟨z6,e6,_,_⟩:=DataW.trod_int Tryz.underlying3 t6;obtain⟨z7,e7,_,_⟩:=DataW.trod_int Tryz.underlying3 t7;obtain⟨z8,e8,_,_⟩:=DataW.trod_int Tryz.underlying32 t8;obtain⟨z9,e9,_⟩:=DataW.trod_bool Tryz.underlying4 t9;obtain⟨v,l,C7,hb,_,_⟩:=iZ Tryz.underlying35 bJ Tryz.underlying5 bJ t10 GD;simp only[List.cons.injEq,and_true]at e0 e1 e2 e3 e4 e5 e6 e7 e8 e9 C7;subst e0 e1 e2 e3 e4 e5 e6 e7 e8 e9 C7;obtain⟨A,c,rfl,_⟩:=id hb;refine⟨⟨fun i=>[z0,z1,z2,z3,z4,z5,z6,z7,z8].getD i 0,z9⟩,A,c,l,?_,hb⟩;rw[Value.agg.injEq];refine Array.ext' (List.ext_getElem? fun i=>?_)
 by_cases hi:i<11
 ·exact fl
 ·rw[List.getElem?_eq_none (by simpa [hsz] using hi),List.getElem?_eq_none (by simpa [bc] using hi)]
end
end Go.Proofs.YtpcfhbeakecihaaGreat

/- Lemmas. -/
import Derived.Test.YtpcfhbeakecihaaGreatM8
import Derived.Test.YtpcfhbeakecihaaGreatM10
set_option linter.all false
set_option maxHeartbeats 20000000
set_option maxRecDepth 100000
namespace Go.Proofs.YtpcfhbeakecihaaGreat
open Go.ChangeAt Go.ChangeShapes Go.Deep Go.RowKit Go.WideShapes
def Small {H:Type}(P:Program)(t:TypeId)(d:DataW H):Prop:=(d.weights P t).all (·≤reachBytes)=true
section
variable {H:Type}{enc:TypeId×Value→H}{P:Program}{w:World}{base:Nat}{spare:Nat→Bool}{held:Bool}
theorem rM {ts:List TypeId}{ds:List (DataW H)}(h:(DataW.weightsEach P ts ds).all (·≤reachBytes)=true){j:Nat}{t:TypeId}{d:DataW H}(ht:ts[j]? =some t)(hd:ds[j]? =some d):Small P t d:=
 List.all_eq_true.2 fun n hn=>List.all_eq_true.1 h n (DataW.weights_mem_each ht hd n hn)
theorem mN {e:TypeId}:∀{ds:List (DataW H)} {d:DataW H},d∈ds→∀n∈d.weights P e,n∈DataW.weightsAll P e ds
 |d0 :: ds,d,hd,n,hn=>by
  simp only[DataW.weightsAll,List.mem_append];rcases List.mem_cons.1 hd with rfl|hd
  ·exact .inl hn
  ·exact .inr (mN hd n hn)
theorem rN {t e:TypeId}{C fuel:Nat}{cs:List Value}{y:DataW H×List MemPlace}(ht:P.underlying t=some (.slice e))(hC:P.cellsOf e=C)(hC0:0<C)
 (hf:DataW.trod enc P w base spare held fuel t cs=some y) (hz:Small P t y.1):
 ∃A len cap n,cs= [.slice A len cap]∧len≤cap∧cap≤maxLen∧len*P.bytesOf e≤reachBytes∧
  ∀i,i<len→∃cs' y',zC w A C i cs'∧DataW.trod enc P w base spare held n e cs'=some y'∧Small P e y'.1:=by
 rcases open_slice ht hf with⟨rfl,_⟩|⟨a,len,cap,m,n,D,Pl,rfl,hb,hl,hm,ur,rfl,hi⟩
 ·exact⟨none,0,0,0,rfl,dX _,fH _,by simp,fun i hi=>absurd hi (Nat.not_lt_zero _)⟩
 ·simp only[Small,DataW.weights,ht,List.all_cons,List.all_append,Bool.and_eq_true,decide_eq_true_eq,List.length_map,List.length_range]at hz;obtain⟨uS,Da,_⟩:=hz;refine⟨some a,len,cap,n,rfl,hl,hm,Nat.le_trans (Nat.mul_le_mul_right _ (Nat.le_add_right _ _)) uS,fun i Ax=>?_⟩;have uD:i<m:=by rw[ur];split<;>omega
  obtain⟨cs,hc,JW⟩:=hi i uD;have MW:Small P e (D i):=List.all_eq_true.2 fun k hk=>List.all_eq_true.1 Da k (mN (List.mem_map.2 ⟨i,List.mem_range.2 Ax,rfl⟩) k hk)
  rw[hC]at hc;obtain⟨_,hlen,s7⟩:=World.cells?_some hc;have BH:a.spot=none:=by
   by_cases hz:i*C=0
   ·have h0:=s7 0 hC0;rw[hz]at h0;obtain⟨x,hx⟩:∃x,cs[0]? =some x:=⟨cs[0]'aj,List.getElem?_eq_getElem aj⟩;rw[hx]at h0;have:=World.cell?_spot h0;simpa [Addr.add] using this
   ·have hi0:0<i:=Nat.pos_of_ne_zero fun e=>hz (by rw[e,Nat.zero_mul])
    obtain⟨cs0,WB,_⟩:=hi 0 aj;rw[hC]at WB;obtain⟨_,ab3,aa0⟩:=World.cells?_some WB;have h0:=aa0 0 hC0;obtain⟨x,hx⟩:∃x,cs0[0]? =some x:=⟨cs0[0]'aj,List.getElem?_eq_getElem aj⟩;rw[hx]at h0;have:=World.cell?_spot h0;simpa [Addr.add] using this
  obtain⟨g,o,sp⟩:=a;simp only at BH;subst BH;have hcell:∀j,j<C→w.cell? ⟨g,o+i*C+j,none⟩=cs[j]? :=fun j hj=>by
   have:=s7 j hj;rw[add_add,Addr.add_lit]at this;rw[Nat.add_assoc];exact this
  have hg:g<w.heap.size:=by
   obtain⟨x,hx⟩:∃x,cs[0]? =some x:=⟨cs[0]'aj,List.getElem?_eq_getElem aj⟩;have h1:=hcell 0 hC0;rw[hx]at h1;exact World.block_lt_of_cell? w _ h1
  exact⟨cs,_,⟨hlen,g,o,rfl,hg,hcell⟩,JW,MW⟩
theorem kV {e:TypeId}{fs:Array Field}{n:Nat}{cs:List Value}{y:DataW H×List MemPlace}(hs:P.underlying e=some (.struct fs))(xh:oneCellFields P fs=true)
 (h:DataW.trod enc P w base spare held n e cs=some y) (hz:Small P e y.1) (hl:cs.length=fs.size):
 ∃m,∀(j:Nat) (f:Field),fs[j]? =some f→∃v y',cs[j]? =some v∧DataW.trod enc P w base spare held m f.type [v]=some y'∧Small P f.type y'.1:=by
 obtain⟨xs,m,_,rfl,_,hlen,hf⟩:=DataW.trod_struct hs h;simp only[Small,DataW.weights,hs]at hz;refine⟨m,fun j f hj=>?_⟩;obtain⟨ho,hk⟩:=hone_of xh j f hj;have NH:j<fs.size:=(Array.getElem?_eq_some_iff.1 hj).1;have h1:=hf j f hj;rw[ho,hk]at h1;have hcs:(cs.drop j).take 1= [cs[j]'aj]:=by
  rw[List.drop_eq_getElem_cons aj];rfl
 rw[hcs]at h1;have hxj:xs[j]? =some (xs[j]'aj):=List.getElem?_eq_getElem aj;refine⟨_,_,List.getElem?_eq_getElem aj,h1.trans hxj,rM hz (j:=j) ?_ ?_⟩
 ·rw[List.getElem?_map,Array.getElem?_toList,hj];rfl
 ·rw[List.getElem?_map,hxj];rfl
theorem zC.one {A:Option Addr}{i:Nat}{cs:List Value}(h:zC w A 1 i cs):∃v g o,cs= [v]∧A=some ⟨g,o,none⟩∧g<w.heap.size∧w.cell? ⟨g,o+i,none⟩=some v:=by
 obtain⟨hl,g,o,e,hg,hc⟩:=h;obtain⟨v,rfl⟩:=List.length_eq_one_iff.1 hl;have:=hc 0 aj;rw[Nat.mul_one,Nat.add_zero]at this;exact⟨v,g,o,rfl,e,hg,this⟩
theorem rY {t e:TypeId}{fuel:Nat}{cs:List Value}{y:DataW H×List MemPlace}(ht:P.underlying t=some (.slice e))(hC:P.cellsOf e=1)(hi:P.underlying e=some (.int .u8))(iq:P.bytesOf e=1)
 (hf:DataW.trod enc P w base spare held fuel t cs=some y) (hz:Small P t y.1):
 ∃v l,cs= [v]∧cH w v l∧(∀x∈l,0≤x∧x≤255)∧(0<l.length→∀k,aJ v k→k<w.heap.size):=by
 obtain⟨A,len,cap,n,rfl,hl,hm,hsz,NI⟩:=rN ht hC aE hf hz;rw[iq,Nat.mul_one]at hsz;have key:∀i,i<len→∃z:Int,(∃g o,A=some ⟨g,o,none⟩∧g<w.heap.size∧w.cell? ⟨g,o+i,none⟩=some (.int .u8 z))∧0≤z∧z≤255:=by
  intro i Ax;obtain⟨cs',y',hea,JW,_⟩:=NI i Ax;obtain⟨v,g,o,rfl,rfl,hg,hc⟩:=hea.one;obtain⟨z,hz,_,hwf⟩:=DataW.trod_int hi JW;simp only[List.cons.injEq,and_true]at hz;subst hz;have aaD:0≤z∧z≤255:=by simpa [Lit.wf,IntKind.min,IntKind.max,IntKind.signed,IntKind.bits] using hwf
  exact⟨z,⟨g,o,rfl,hg,hc⟩,aaD⟩
 obtain⟨L,hL,hR⟩:=ja len 0 _ key;subst hL;have hr:reachBytes≤140737488355328:=aE;refine⟨_,L,rfl,⟨A,cap,rfl,hl,aj,?_⟩,?_,?_⟩
 ·intro j u hj;rw[List.getElem?_map]at hj;obtain⟨z,hz,rfl⟩:=Option.map_eq_some_iff.1 hj;have NH:j<L.length:=(List.getElem?_eq_some_iff.1 hz).1;obtain⟨⟨g,o,e,_,hc⟩,_⟩:=hR j NH;have:L.getD j 0=z:=by simp[hz]
  rw[this]at hc;exact⟨g,o,e,hc⟩
 ·intro x hx;obtain⟨j,hj,rfl⟩:=List.mem_iff_getElem.1 hx;have:=(hR j hj).2;simpa [hj] using this
 ·intro hz k hk;obtain⟨⟨g,o,e,hg,_⟩,_⟩:=hR 0 hz;subst e;rw[aD]at hk;omega
theorem dM {t:TypeId}{m o:Nat}{cs:List Value}{y:Option (DataW H×List MemPlace)}{y':DataW H×List MemPlace}(hi:P.underlying t=some (.int .i64))(hC:P.cellsOf t=1)
 (h:DataW.trod enc P w base spare held m t ((cs.drop o).take (P.cellsOf t))=y) (hy:y=some y'):∃z:Int,cs[o]? =some (ah z):=by
 rw[hy,hC]at h;obtain⟨z,hz,_,_⟩:=DataW.trod_int hi h;refine⟨z,?_⟩;have:((cs.drop o).take 1)[0]? =some (ah z):=by rw[hz];rfl
 rw[List.getElem?_take_of_lt aE,List.getElem?_drop]at this;exact this
theorem yH {t e:TypeId}{m o:Nat}{cs:List Value}{y:Option (DataW H×List MemPlace)}{y':DataW H×List MemPlace}(ht:P.underlying t=some (.array 3 e))(hC:P.cellsOf t=3)(hi:P.underlying e=some (.int .i64))(yV:P.cellsOf e=1)
 (h:DataW.trod enc P w base spare held m t ((cs.drop o).take (P.cellsOf t))=y) (hy:y=some y'):∀i,i<3→∃z:Int,cs[o+i]? =some (ah z):=by
 intro i hi3;rw[hy,hC]at h;obtain⟨xs,m',_,_,_,hlen,hg⟩:=DataW.trod_array ht h;have g:=hg i hi3;have hx:xs[i]? =some (xs[i]'aj):=List.getElem?_eq_getElem aj;obtain⟨z,hz⟩:=dM (cs:=(cs.drop o).take 3) hi yV g hx;rw[yV,Nat.mul_one,List.getElem?_take_of_lt hi3,List.getElem?_drop]at hz;exact⟨z,hz⟩
end
section
variable {H:Type}{enc:TypeId×Value→H}{w:World}{base:Nat}{spare:Nat→Bool}{held:Bool}
theorem EM {n:Nat}{cs:List Value}(h:∀i,i<n→∃z:Int,cs[i]? =some (ah z)):∃f:Nat→Int,∀i,i<n→cs[i]? =some (ah (f i)):=by
 obtain⟨L,hL,hR⟩:=ja n 0 (fun i (z:Int)=>cs[i]? =some (ah z)) h;exact⟨fun i=>L.getD i 0,hR⟩
theorem EC {fuel:Nat}{cs:List Value}{y:DataW H×List MemPlace}(hf:DataW.trod enc Tryz.prog w base spare held fuel 23 cs=some y)(hz:Small Tryz.prog 23 y.1):
 ∃A c L,cs= [.slice A (List.length L) c]∧aX w A L.length c L:=by
 obtain⟨A,len,cap,n,rfl,hl,hm,hsz,NI⟩:=rN (C:=4) Tryz.underlying23 aS aE hf hz;have key:∀i,i<len→∃a:aH,∃g o,A=some ⟨g,o,none⟩∧g<w.heap.size∧w.cell? ⟨g,o+i*4,none⟩=some (ah a.fr)∧w.cell? ⟨g,o+i*4+1,none⟩=some (ah a.size)∧w.cell? ⟨g,o+i*4+2,none⟩=some (ah a.often)∧w.cell? ⟨g,o+i*4+3,none⟩=some (.bool a.loop):=by
  intro i Ax;obtain⟨cs',y',⟨pE,g,o,rfl,hg,hcell⟩,JW,MW⟩:=NI i Ax;obtain⟨m,hm⟩:=kV Tryz.underlying100 aS JW MW pE;obtain⟨v0,y0,h0,t0,_⟩:=hm 0 _ rfl;obtain⟨v1,y1,h1,t1,_⟩:=hm 1 _ rfl;obtain⟨v2,y2,h2,t2,_⟩:=hm 2 _ rfl;obtain⟨v3,y3,h3,t3,_⟩:=hm 3 _ rfl;obtain⟨z0,e0,_,_⟩:=DataW.trod_int Tryz.underlying3 t0;obtain⟨z1,e1,_,_⟩:=DataW.trod_int Tryz.underlying3 t1;obtain⟨z2,e2,_,_⟩:=DataW.trod_int Tryz.underlying3 t2;obtain⟨z3,e3,_⟩:=DataW.trod_bool Tryz.underlying4 t3;simp only[List.cons.injEq,and_true]at e0 e1 e2 e3;subst e0 e1 e2 e3;exact⟨⟨z0,z1,z2,z3⟩,g,o,rfl,hg,by rw[←h0];exact hcell 0 aE,by rw[←h1];exact hcell 1 aE,by rw[←h2];exact hcell 2 aE,by rw[←h3];exact hcell 3 aE⟩
 obtain⟨L,hL,hR⟩:=ja len default _ key;subst hL;exact⟨A,cap,L,rfl,rfl,hl,hm,hR⟩
theorem aan {r:Reach}{b0:Nat}{v:Value}{d:DataW H}{p:List MemPlace}(hv:Value.okWide Tryz.prog w r b0 25 v)(h:DataW.Trod enc Tryz.prog w base spare held 25 v d p)(hz:Small Tryz.prog 25 d):
 ∃c A m,v= .agg (ao c (.slice A c.h.length m))∧aX w A c.h.length m c.h:=by
 obtain⟨cs,rfl,hsz⟩:=okWide_struct Tryz.underlying25 hv;have hsz:cs.size=17:=hsz.trans aS;obtain⟨fuel,hf⟩:=h;obtain⟨xs,m,_,Z4,_,hlen,hg⟩:=DataW.trod_struct Tryz.underlying25 hf;injection Z4 with e1 e2;subst e1 e2;have hlen:xs.length=13:=hlen;have hx:∀j,j<13→∃y,xs[j]? =some y:=fun j hj=>⟨xs[j]'aj,List.getElem?_eq_getElem aj⟩
 have yV:Tryz.prog.cellsOf 3=1:=by kernel_rfl
 have hC3:Tryz.prog.cellsOf 22=3:=by kernel_rfl
 obtain⟨y0,QG⟩:=hx 0 aE;obtain⟨z0,uS⟩:=dM (o:=0) Tryz.underlying3 yV (hg 0 _ rfl) QG;obtain⟨y1,VV⟩:=hx 1 aE;obtain⟨z1,Da⟩:=dM (o:=1) Tryz.underlying3 yV (hg 1 _ rfl) VV;obtain⟨y2,hy2⟩:=hx 2 aE;obtain⟨z2,yO⟩:=dM (o:=2) Tryz.underlying3 yV (hg 2 _ rfl) hy2;obtain⟨y3,Z3⟩:=hx 3 aE;obtain⟨z3,hz3⟩:=dM (o:=3) Tryz.underlying3 yV (hg 3 _ rfl) Z3;obtain⟨y4,hy4⟩:=hx 4 aE;obtain⟨z4,hz4⟩:=dM (o:=4) Tryz.underlying3 yV (hg 4 _ rfl) hy4;obtain⟨y5,hy5⟩:=hx 5 aE;obtain⟨z5,hz5⟩:=dM (o:=5) Tryz.underlying3 yV (hg 5 _ rfl) hy5;obtain⟨y8,hy8⟩:=hx 8 aE;obtain⟨z12,aaA⟩:=dM (o:=12) Tryz.underlying3 yV (hg 8 _ rfl) hy8;obtain⟨y9,hy9⟩:=hx 9 aE;obtain⟨z13,aaz⟩:=dM (o:=13) Tryz.underlying3 yV (hg 9 _ rfl) hy9;obtain⟨y10,aaC⟩:=hx 10 aE;obtain⟨z14,aay⟩:=dM (o:=14) Tryz.underlying3 yV (hg 10 _ rfl) aaC;obtain⟨y11,aaB⟩:=hx 11 aE;obtain⟨z15,aax⟩:=dM (o:=15) Tryz.underlying3 yV (hg 11 _ rfl) aaB;obtain⟨y6,hy6⟩:=hx 6 aE;have ha6:=yH (o:=6) Tryz.underlying22 hC3 Tryz.underlying3 yV (hg 6 _ rfl) hy6;obtain⟨y7,hy7⟩:=hx 7 aE;have ha9:=yH (o:=9) Tryz.underlying22 hC3 Tryz.underlying3 yV (hg 7 _ rfl) hy7;have S0:∀i,i<16→∃z:Int,cs.toList[i]? =some (ah z):=by
  intro i hi;rcases(show i=0∨i=1∨i=2∨i=3∨i=4∨i=5∨i=6∨i=7∨i=8∨i=9∨i=10∨i=11∨i=12∨i=13∨i=14∨i=15 from by omega)with rfl|rfl|rfl|rfl|rfl|rfl|rfl|rfl|rfl|rfl|rfl|rfl|rfl|rfl|rfl|rfl
  ·exact⟨z0,uS⟩
  ·exact⟨z1,Da⟩
  ·exact⟨z2,yO⟩
  ·exact⟨z3,hz3⟩
  ·exact⟨z4,hz4⟩
  ·exact⟨z5,hz5⟩
  ·exact ha6 0 aE
  ·exact ha6 1 aE
  ·exact ha6 2 aE
  ·exact ha9 0 aE
  ·exact ha9 1 aE
  ·exact ha9 2 aE
  ·exact⟨z12,aaA⟩
  ·exact⟨z13,aaz⟩
  ·exact⟨z14,aay⟩
  ·exact⟨z15,aax⟩
 obtain⟨f,hfu⟩:=EM S0;have acw:cs.toList.length=17:=by rw[Array.length_toList];exact hsz
 obtain⟨y12,XQ⟩:=hx 12 aE;have Sf:=(hg 12 _ rfl).trans XQ;have e16:(cs.toList.drop 16).take (Tryz.prog.cellsOf 23)= [cs.toList[16]'aj]:=by
  rw[show Tryz.prog.cellsOf 23=1 from by kernel_rfl,List.drop_eq_getElem_cons aj];rfl
 have aa2:DataW.trod enc Tryz.prog w base spare held m 23 [cs.toList[16]'aj]=some y12:=by rw[←e16];exact Sf
 simp only[Small,DataW.weights,Tryz.underlying25]at hz;obtain⟨A,cap,L,eL,hHA⟩:=EC aa2 (rM hz (j:=12) rfl (by rw[List.getElem?_map,XQ];rfl));simp only[List.cons.injEq,and_true]at eL;refine⟨⟨f,L⟩,A,cap,?_,hHA⟩
 congr 1
 apply Array.toList_inj.1;apply List.ext_getElem?;intro i
 by_cases hi:i<16
 ·rw[hfu i hi];have:=aL ⟨f,L⟩ (.slice A L.length cap) hi;rw[←Array.getElem?_toList]at this;exact this.symm
 ·by_cases Wk:i=16
  ·subst Wk;rw[List.getElem?_eq_getElem aj,eL];rfl
  ·rw[List.getElem?_eq_none aj,List.getElem?_eq_none (by show 17≤i;omega)]
end
end Go.Proofs.YtpcfhbeakecihaaGreat

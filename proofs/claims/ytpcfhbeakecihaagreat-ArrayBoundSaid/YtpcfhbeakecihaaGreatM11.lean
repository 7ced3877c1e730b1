/- Lemmas. -/
import Derived.Test.YtpcfhbeakecihaaGreatM8
import Derived.Test.YtpcfhbeakecihaaGreatM10
set_option linter.all false
set_option maxHeartbeats 20000000
set_option maxRecDepth 100000
namespace Go.Proofs.YtpcfhbeakecihaaGreat
open Go.ChangeAt Go.ChangeShapes Go.Deep Go.RowKit Go.WideShapes
def Small {H:Type}(P:Program)(t:TypeId)(d:DataW H):Prop:=(d.weights P t).all (·≤reachBytes)=true
section
variable {H:Type}{enc:TypeId×Value→H}{P:Program}{w:World}{base:Nat}{spare:Nat→Bool}{held:Bool}
theorem iN {ts:List TypeId}{ds:List (DataW H)}(h:(DataW.weightsEach P ts ds).all (·≤reachBytes)=true){j:Nat}{t:TypeId}{d:DataW H}(ht:ts[j]? =some t)(hd:ds[j]? =some d):Small P t d:=
 List.all_eq_true.2 fun n hn=>List.all_eq_true.1 h n (DataW.weights_mem_each ht hd n hn)
theorem fg {e:TypeId}:∀{ds:List (DataW H)} {d:DataW H},d∈ds→∀n∈d.weights P e,n∈DataW.weightsAll P e ds
 |d0 :: ds,d,hd,n,hn=>by
  simp only[DataW.weightsAll,List.mem_append];rcases List.mem_cons.1 hd with rfl|hd
  ·exact .inl hn
  ·exact .inr (fg hd n hn)
theorem iO {t e:TypeId}{C fuel:Nat}{cs:List Value}{y:DataW H×List MemPlace}(ht:P.underlying t=some (.slice e))(hC:P.cellsOf e=C)(FD:0<C)
 (hf:DataW.trod enc P w base spare held fuel t cs=some y) (hz:Small P t y.1):
 ∃A len cap n,cs= [.slice A len cap]∧len≤cap∧cap≤maxLen∧len*P.bytesOf e≤reachBytes∧
  ∀i,i<len→∃cs' y',nh w A C i cs'∧DataW.trod enc P w base spare held n e cs'=some y'∧Small P e y'.1:=by
 rcases open_slice ht hf with⟨rfl,_⟩|⟨a,len,cap,m,n,D,Pl,rfl,hb,hl,hm,w9,rfl,hi⟩
 ·exact⟨none,0,0,0,rfl,dT _,eK _,by simp,fun i hi=>absurd hi (Nat.not_lt_zero _)⟩
 ·simp only[Small,DataW.weights,ht,List.all_cons,List.all_append,Bool.and_eq_true,decide_eq_true_eq,List.length_map,List.length_range]at hz;obtain⟨pV,rf,_⟩:=hz;refine⟨some a,len,cap,n,rfl,hl,hm,Nat.le_trans (Nat.mul_le_mul_right _ (Nat.le_add_right _ _)) pV,fun i nO=>?_⟩;have pX:i<m:=by rw[w9];split<;>omega
  obtain⟨cs,hc,ub⟩:=hi i pX;have wD:Small P e (D i):=List.all_eq_true.2 fun k hk=>List.all_eq_true.1 rf k (fg (List.mem_map.2 ⟨i,List.mem_range.2 nO,rfl⟩) k hk)
  rw[hC]at hc;obtain⟨_,hlen,FB⟩:=World.cells?_some hc;have ot:a.spot=none:=by
   exact fj
  obtain⟨g,o,sp⟩:=a;simp only at ot;subst ot;have hcell:∀j,j<C→w.cell? ⟨g,o+i*C+j,none⟩=cs[j]? :=fun j hj=>by
   have:=FB j hj;rw[add_add,Addr.add_lit]at this;rw[Nat.add_assoc];exact this
  have hg:g<w.heap.size:=by
   exact fU
  exact⟨cs,_,⟨hlen,g,o,rfl,hg,hcell⟩,ub,wD⟩
theorem ek {e:TypeId}{fs:Array Field}{n:Nat}{cs:List Value}{y:DataW H×List MemPlace}(hs:P.underlying e=some (.struct fs))(lC:oneCellFields P fs=true)
 (h:DataW.trod enc P w base spare held n e cs=some y) (hz:Small P e y.1) (hl:cs.length=fs.size):
 ∃m,∀(j:Nat) (f:Field),fs[j]? =some f→∃v y',cs[j]? =some v∧DataW.trod enc P w base spare held m f.type [v]=some y'∧Small P f.type y'.1:=by
 obtain⟨xs,m,_,rfl,_,hlen,hf⟩:=DataW.trod_struct hs h;simp only[Small,DataW.weights,hs]at hz;refine⟨m,fun j f hj=>?_⟩;obtain⟨ho,hk⟩:=hone_of lC j f hj;have Aj:j<fs.size:=(Array.getElem?_eq_some_iff.1 hj).1;have h1:=hf j f hj;rw[ho,hk]at h1;have hcs:(cs.drop j).take 1= [cs[j]'ai]:=by
  rw[List.drop_eq_getElem_cons ai];rfl
 rw[hcs]at h1;have JW:xs[j]? =some (xs[j]'ai):=List.getElem?_eq_getElem ai;refine⟨_,_,List.getElem?_eq_getElem ai,h1.trans JW,iN hz (j:=j) ?_ ?_⟩
 ·rw[List.getElem?_map,Array.getElem?_toList,hj];rfl
 ·rw[List.getElem?_map,JW];rfl
theorem nh.one {A:Option Addr}{i:Nat}{cs:List Value}(h:nh w A 1 i cs):∃v g o,cs= [v]∧A=some ⟨g,o,none⟩∧g<w.heap.size∧w.cell? ⟨g,o+i,none⟩=some v:=by
 obtain⟨hl,g,o,e,hg,hc⟩:=h;obtain⟨v,rfl⟩:=List.length_eq_one_iff.1 hl;have:=hc 0 ai;rw[Nat.mul_one,Nat.add_zero]at this;exact⟨v,g,o,rfl,e,hg,this⟩
theorem iZ {t e:TypeId}{fuel:Nat}{cs:List Value}{y:DataW H×List MemPlace}(ht:P.underlying t=some (.slice e))(hC:P.cellsOf e=1)(hi:P.underlying e=some (.int .u8))(eE:P.bytesOf e=1)
 (hf:DataW.trod enc P w base spare held fuel t cs=some y) (hz:Small P t y.1):
 ∃v l,cs= [v]∧b8 w v l∧(∀x∈l,0≤x∧x≤255)∧(0<l.length→∀k,aJ v k→k<w.heap.size):=by
 obtain⟨A,len,cap,n,rfl,hl,hm,hsz,xb⟩:=iO ht hC av hf hz;rw[eE,Nat.mul_one]at hsz;have key:∀i,i<len→∃z:Int,(∃g o,A=some ⟨g,o,none⟩∧g<w.heap.size∧w.cell? ⟨g,o+i,none⟩=some (.int .u8 z))∧0≤z∧z≤255:=by
  intro i nO;obtain⟨cs',y',Ob,ub,_⟩:=xb i nO;obtain⟨v,g,o,rfl,rfl,hg,hc⟩:=Ob.one;obtain⟨z,hz,_,Nt⟩:=DataW.trod_int hi ub;simp only[List.cons.injEq,and_true]at hz;subst hz;have I1:0≤z∧z≤255:=by simpa [Lit.wf,IntKind.min,IntKind.max,IntKind.signed,IntKind.bits] using Nt
  exact⟨z,⟨g,o,rfl,hg,hc⟩,I1⟩
 obtain⟨L,hL,hR⟩:=dp len 0 _ key;subst hL;have hr:reachBytes≤140737488355328:=av;refine⟨_,L,rfl,⟨A,cap,rfl,hl,ai,?_⟩,?_,?_⟩
 ·intro j u hj;rw[List.getElem?_map]at hj;obtain⟨z,hz,rfl⟩:=Option.map_eq_some_iff.1 hj;have Aj:j<L.length:=(List.getElem?_eq_some_iff.1 hz).1;obtain⟨⟨g,o,e,_,hc⟩,_⟩:=hR j Aj;have:L.getD j 0=z:=by simp[hz]
  rw[this]at hc;exact⟨g,o,e,hc⟩
 ·intro x hx;obtain⟨j,hj,rfl⟩:=List.mem_iff_getElem.1 hx;have:=(hR j hj).2;simpa [hj] using this
 ·intro hz k hk;obtain⟨⟨g,o,e,hg,_⟩,_⟩:=hR 0 hz;subst e;rw[aq]at hk;omega
theorem bC {t:TypeId}{m o:Nat}{cs:List Value}{y:Option (DataW H×List MemPlace)}{y':DataW H×List MemPlace}(hi:P.underlying t=some (.int .i64))(hC:P.cellsOf t=1)
 (h:DataW.trod enc P w base spare held m t ((cs.drop o).take (P.cellsOf t))=y) (hy:y=some y'):∃z:Int,cs[o]? =some (ah z):=by
 rw[hy,hC]at h;obtain⟨z,hz,_,_⟩:=DataW.trod_int hi h;refine⟨z,?_⟩;have:((cs.drop o).take 1)[0]? =some (ah z):=by rw[hz];rfl
 rw[List.getElem?_take_of_lt av,List.getElem?_drop]at this;exact this
theorem mG {t e:TypeId}{m o:Nat}{cs:List Value}{y:Option (DataW H×List MemPlace)}{y':DataW H×List MemPlace}(ht:P.underlying t=some (.array 3 e))(hC:P.cellsOf t=3)(hi:P.underlying e=some (.int .i64))(mL:P.cellsOf e=1)
 (h:DataW.trod enc P w base spare held m t ((cs.drop o).take (P.cellsOf t))=y) (hy:y=some y'):∀i,i<3→∃z:Int,cs[o+i]? =some (ah z):=by
 intro i Hc;rw[hy,hC]at h;obtain⟨xs,m',_,_,_,hlen,hg⟩:=DataW.trod_array ht h;have g:=hg i Hc;have hx:xs[i]? =some (xs[i]'ai):=List.getElem?_eq_getElem ai;obtain⟨z,hz⟩:=bC (cs:=(cs.drop o).take 3) hi mL g hx;rw[mL,Nat.mul_one,List.getElem?_take_of_lt Hc,List.getElem?_drop]at hz;exact⟨z,hz⟩
end
section
variable {H:Type}{enc:TypeId×Value→H}{w:World}{base:Nat}{spare:Nat→Bool}{held:Bool}
theorem qW {n:Nat}{cs:List Value}(h:∀i,i<n→∃z:Int,cs[i]? =some (ah z)):∃f:Nat→Int,∀i,i<n→cs[i]? =some (ah (f i)):=by
 obtain⟨L,hL,hR⟩:=dp n 0 (fun i (z:Int)=>cs[i]? =some (ah z)) h;exact⟨fun i=>L.getD i 0,hR⟩
theorem qN {fuel:Nat}{cs:List Value}{y:DataW H×List MemPlace}(hf:DataW.trod enc Tryz.prog w base spare held fuel 23 cs=some y)(hz:Small Tryz.prog 23 y.1):
 ∃A c L,cs= [.slice A (List.length L) c]∧aL w A L.length c L:=by
 obtain⟨A,len,cap,n,rfl,hl,hm,hsz,xb⟩:=iO (C:=4) Tryz.underlying23 bJ av hf hz;have key:∀i,i<len→∃a:au,∃g o,A=some ⟨g,o,none⟩∧g<w.heap.size∧w.cell? ⟨g,o+i*4,none⟩=some (ah a.fr)∧w.cell? ⟨g,o+i*4+1,none⟩=some (ah a.size)∧w.cell? ⟨g,o+i*4+2,none⟩=some (ah a.often)∧w.cell? ⟨g,o+i*4+3,none⟩=some (.bool a.loop):=by
  intro i nO;obtain⟨cs',y',⟨rm,g,o,rfl,hg,hcell⟩,ub,wD⟩:=xb i nO;obtain⟨m,hm⟩:=ek Tryz.underlying100 bJ ub wD rm;obtain⟨v0,y0,h0,t0,_⟩:=hm 0 _ rfl;obtain⟨v1,y1,h1,t1,_⟩:=hm 1 _ rfl;obtain⟨v2,y2,h2,t2,_⟩:=hm 2 _ rfl;obtain⟨v3,y3,h3,t3,_⟩:=hm 3 _ rfl;obtain⟨z0,e0,_,_⟩:=DataW.trod_int Tryz.underlying3 t0;obtain⟨z1,e1,_,_⟩:=DataW.trod_int Tryz.underlying3 t1;obtain⟨z2,e2,_,_⟩:=DataW.trod_int Tryz.underlying3 t2;obtain⟨z3,e3,_⟩:=DataW.trod_bool Tryz.underlying4 t3;simp only[List.cons.injEq,and_true]at e0 e1 e2 e3;subst e0 e1 e2 e3;exact⟨⟨z0,z1,z2,z3⟩,g,o,rfl,hg,by rw[←h0];exact hcell 0 av,by rw[←h1];exact hcell 1 av,by rw[←h2];exact hcell 2 av,by rw[←h3];exact hcell 3 av⟩
 obtain⟨L,hL,hR⟩:=dp len default _ key;subst hL;exact⟨A,cap,L,rfl,rfl,hl,hm,hR⟩
theorem Gt {r:Reach}{b0:Nat}{v:Value}{d:DataW H}{p:List MemPlace}(hv:Value.okWide Tryz.prog w r b0 25 v)(h:DataW.Trod enc Tryz.prog w base spare held 25 v d p)(hz:Small Tryz.prog 25 d):
 ∃c A m,v= .agg (aj c (.slice A c.h.length m))∧aL w A c.h.length m c.h:=by
 obtain⟨cs,rfl,hsz⟩:=okWide_struct Tryz.underlying25 hv;have hsz:cs.size=17:=hsz.trans bJ;obtain⟨fuel,hf⟩:=h;obtain⟨xs,m,_,E0,_,hlen,hg⟩:=DataW.trod_struct Tryz.underlying25 hf;injection E0 with e1 e2;subst e1 e2;have hlen:xs.length=13:=hlen;have hx:∀j,j<13→∃y,xs[j]? =some y:=fun j hj=>⟨xs[j]'ai,List.getElem?_eq_getElem ai⟩
 have mL:Tryz.prog.cellsOf 3=1:=by kernel_rfl
 have KW:Tryz.prog.cellsOf 22=3:=by kernel_rfl
 obtain⟨y0,yV⟩:=hx 0 av;obtain⟨z0,pV⟩:=bC (o:=0) Tryz.underlying3 mL (hg 0 _ rfl) yV;obtain⟨y1,CE⟩:=hx 1 av;obtain⟨z1,rf⟩:=bC (o:=1) Tryz.underlying3 mL (hg 1 _ rfl) CE;obtain⟨y2,Ns⟩:=hx 2 av;obtain⟨z2,tP⟩:=bC (o:=2) Tryz.underlying3 mL (hg 2 _ rfl) Ns;obtain⟨y3,EZ⟩:=hx 3 av;obtain⟨z3,Nj⟩:=bC (o:=3) Tryz.underlying3 mL (hg 3 _ rfl) EZ;obtain⟨y4,Nr⟩:=hx 4 av;obtain⟨z4,Ni⟩:=bC (o:=4) Tryz.underlying3 mL (hg 4 _ rfl) Nr;obtain⟨y5,Nq⟩:=hx 5 av;obtain⟨z5,Nh⟩:=bC (o:=5) Tryz.underlying3 mL (hg 5 _ rfl) Nq;obtain⟨y8,Nl⟩:=hx 8 av;obtain⟨z12,IY⟩:=bC (o:=12) Tryz.underlying3 mL (hg 8 _ rfl) Nl;obtain⟨y9,Nk⟩:=hx 9 av;obtain⟨MY,IX⟩:=bC (o:=13) Tryz.underlying3 mL (hg 9 _ rfl) Nk;obtain⟨Gy,I0⟩:=hx 10 av;obtain⟨MX,IW⟩:=bC (o:=14) Tryz.underlying3 mL (hg 10 _ rfl) I0;obtain⟨Qa,IZ⟩:=hx 11 av;obtain⟨MW,IV⟩:=bC (o:=15) Tryz.underlying3 mL (hg 11 _ rfl) IZ;obtain⟨y6,Np⟩:=hx 6 av;have Hs:=mG (o:=6) Tryz.underlying22 KW Tryz.underlying3 mL (hg 6 _ rfl) Np;obtain⟨y7,Nn⟩:=hx 7 av;have Hp:=mG (o:=9) Tryz.underlying22 KW Tryz.underlying3 mL (hg 7 _ rfl) Nn;have AM:∀i,i<16→∃z:Int,cs.toList[i]? =some (ah z):=by
  intro i hi;rcases(show i=0∨i=1∨i=2∨i=3∨i=4∨i=5∨i=6∨i=7∨i=8∨i=9∨i=10∨i=11∨i=12∨i=13∨i=14∨i=15 from by omega)with rfl|rfl|rfl|rfl|rfl|rfl|rfl|rfl|rfl|rfl|rfl|rfl|rfl|rfl|rfl|rfl
  ·exact⟨z0,pV⟩
  ·exact⟨z1,rf⟩
  ·exact⟨z2,tP⟩
  ·exact⟨z3,Nj⟩
  ·exact⟨z4,Ni⟩
  ·exact⟨z5,Nh⟩
  ·exact Hs 0 av
  ·exact Hs 1 av
  ·exact Hs 2 av
  ·exact Hp 0 av
  ·exact Hp 1 av
  ·exact Hp 2 av
  ·exact⟨z12,IY⟩
  ·exact⟨MY,IX⟩
  ·exact⟨MX,IW⟩
  ·exact⟨MW,IV⟩
 obtain⟨f,Fo⟩:=qW AM;have PZ:cs.toList.length=17:=by rw[Array.length_toList];exact hsz
 obtain⟨M5,Dx⟩:=hx 12 av;have FF:=(hg 12 _ rfl).trans Dx;have OB:(cs.toList.drop 16).take (Tryz.prog.cellsOf 23)= [cs.toList[16]'ai]:=by
  rw[show Tryz.prog.cellsOf 23=1 from by kernel_rfl,List.drop_eq_getElem_cons ai];rfl
 have Jk:DataW.trod enc Tryz.prog w base spare held m 23 [cs.toList[16]'ai]=some M5:=by rw[←OB];exact FF
 simp only[Small,DataW.weights,Tryz.underlying25]at hz;obtain⟨A,cap,L,eL,On⟩:=qN Jk (iN hz (j:=12) rfl (by rw[List.getElem?_map,Dx];rfl));simp only[List.cons.injEq,and_true]at eL;refine⟨⟨f,L⟩,A,cap,?_,On⟩
 congr 1
 apply Array.toList_inj.1;apply List.ext_getElem?;intro i
 by_cases hi:i<16
 ·rw[Fo i hi];have:=aB ⟨f,L⟩ (.slice A L.length cap) hi;rw[←Array.getElem?_toList]at this;exact this.symm
 ·by_cases CR:i=16
  ·subst CR;rw[List.getElem?_eq_getElem ai,eL];rfl
  ·rw[List.getElem?_eq_none ai,List.getElem?_eq_none (by show 17≤i;omega)]
theorem Cv {r:Reach}{b0:Nat}{v:Value}{d:DataW H}{p:List MemPlace}(hv:Value.okWide Tryz.prog w r b0 87 v)(h:DataW.Trod enc Tryz.prog w base spare held 87 v d p)(hz:Small Tryz.prog 87 d):
 ∃b A c l,v= .agg #[ah b,.slice A (List.length l) c]∧b8 w (.slice A l.length c) l:=by
 obtain⟨cs,rfl,hsz⟩:=okWide_struct Tryz.underlying87 hv;have hsz:cs.size=2:=hsz.trans bJ;obtain⟨fuel,hf⟩:=h;obtain⟨m,hm⟩:=ek Tryz.underlying87 bJ hf hz (by show cs.toList.length=2;simpa using hsz);obtain⟨v0,y0,h0,t0,_⟩:=hm 0 _ rfl;obtain⟨v1,y1,h1,t1,s1⟩:=hm 1 _ rfl;obtain⟨z0,e0,_,_⟩:=DataW.trod_int Tryz.underlying3 t0;obtain⟨v,d,e5,eE,PV,_⟩:=iZ Tryz.underlying35 bJ Tryz.underlying5 bJ t1 s1;simp only[List.cons.injEq,and_true]at e0 e5;subst e0 e5;obtain⟨A,c,rfl,hr⟩:=id eE;refine⟨z0,A,c,d,?_,eE⟩
 congr 1
 apply Array.ext'
 match hcs:cs.toList with
 | [a,b]=>
  have h0:cs.toList[0]? =_:=h0;have h1:cs.toList[1]? =_:=h1;rw[hcs]at h0 h1;simp at h0 h1;rw[h0,h1]
 | []=>simp[←Array.length_toList,hcs]at hsz
 | [a]=>simp[←Array.length_toList,hcs]at hsz
 |a :: b :: c :: l=>simp[←Array.length_toList,hcs]at hsz
end
end Go.Proofs.YtpcfhbeakecihaaGreat

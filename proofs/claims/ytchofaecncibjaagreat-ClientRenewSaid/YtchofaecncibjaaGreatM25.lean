/- Lemmas. -/
import Derived.Test.YtchofaecncibjaaGreatM22
import Derived.Test.YtchofaecncibjaaGreatM24
set_option linter.all false
set_option maxHeartbeats 20000000
set_option maxRecDepth 100000
namespace Go.Proofs.YtchofaecncibjaaGreat
section
open Go.ChangeShapes Go.RowKit Go.WideShapes
def pI (blocks:Int)(q:Nat→Int)(h p:Value):Array Value:=#[ah blocks,ah (q 0),ah (q 1),ah (q 2),h,p]
theorem Lt (blocks:Int)(q:Nat→Int)(h p:Value){j:Nat}{v:Value}(hj:(gB q).toList[j]? =some v):(pI blocks q h p)[1+j]? =some v:=by
 have h3:j<3:=(List.getElem?_eq_some_iff.1 hj).1;rcases(show j=0∨j=1∨j=2 by omega)with rfl|rfl|rfl<;>exact hj
theorem L9 (blocks:Int)(q:Nat→Int):Tryz.prog.built 217 [(0,ah blocks),(1,.agg (gB q))]=some (pI blocks q aJ aJ):=by kernel_rfl
def X3 (pb:Nat)(blocks:Int)(q:Nat→Int)(l:List aS)(w w':World):Prop:=
 ∃i:nT,i.pb=pb∧jM w' i blocks q l (eW l q)∧(∀k,i.F k→k=pb∨w.heap.size≤k)∧ag (ar pb) w w'
section
theorem jl{P:Prop}(h:P:=by
 first|exact⟨⟨_,Yx⟩,((bn.trans RW).mono fun _ hk=>hk.elim).trans bM⟩|exact⟨⟨_,Gr⟩,(bn.trans RW).mono fun _ hk=>hk.elim⟩|exact⟨⟨_,HX3⟩,bn.mono fun _ hk=>hk.elim⟩|exact⟨⟨_,HX2.drew⟩,bf.drew.mono fun _ hk=>hk.elim⟩):P:=h
theorem TG {pb:Nat}{blocks:Int}{q:Nat→Int}{l:List aS}{A:Option Addr}{n c:Nat}{h0 p0:Value}(w:World)(hx:Box w pb 217 (pI blocks q h0 p0))(bw:aW w A n c l)(hP:dY blocks l)
 (hb:1≤blocks∧blocks≤32) (hq:∀t,t<3→0≤q t∧q t≤16):
 Calls Tryz.prog 122 #[aO pb,.slice A n c] w fun e w'=>e= .returned (ah 0)∧X3 pb blocks q l w w':=by
 have HX:=ae hx;have kx:=ae bw;have HP:=ae hP;have HQ:=ae hq;have HL:=ae (show l.length≤100 by have:=hP.2.2;omega);have HC:=Ej A n c l blocks w bw hb.1 hb.2;rw[wh hP]at HC;have HC:=ae HC;have x0:aw w pb 0 blocks:=hx.af rfl;have bL:=ae hx.lt;clear hx bw hP hb hq
 go_enter Tryz.func122,Tryz.ntmps122
 go_upto_region 5 with(go_at_call 98;refine HC.mono ?_;rintro e W2 ⟨rfl,bp⟩);have HX2:=ae<|bp.aq HX id;have bf:=ae bp;clear bp x0 HC;refine oa (fun w':World=>(∃h,Box w' pb 217 (pI blocks q h p0))∧ag (ar pb) w w') 13 ?_ ?_
 ·exact jl
 intro aH;refine bX [0,1,2,4,5,6,7] ?_;refine cj (i:=8) (v:=.agg (gB q)) bZ rfl bZ (fun _ _ _ h=>h) (yieldsIf_load_mid (by rfl) 22 _ rfl pb 1 rfl (gB q).toList _ (fun w hw j v hj=>hw.1.elim fun h hb=>hb.af (Lt blocks q h p0 hj)) Tryz.underlying22 rfl bZ) (by assumption) ?_;refine CW ?_;refine cM 3 fun K hK=>?_
 go_simp;refine(yc W2.drew (kx.keep (bf.drew)) HL).mono ?_;rintro e W3 ⟨B,kJ,rfl,U7,cB,vm,acy⟩;have HX3:=ae<|cB.aq HX2.drew id;have HH3:=ae U7;have oh:=ae vm;have Gs:=ae acy;have bn:=ae<|bf.drew.trans cB;clear U7 vm cB acy;refine jS hK ?_ fun aH=>?_
 ·exact jl
 clear hK;refine cM 9 fun K hK=>?_
 go_simp;refine(FX W3 (kx.keep bn) HP HQ).mono ?_;rintro e W4 ⟨ob,rfl,NL,Mm,cI⟩;have Gr:=ae<|cI.aq HX3 id;have iM:=ae NL;have CT:=ae Mm;have RW:=ae cI;clear NL Mm cI;refine jS hK ?_ fun aH=>?_
 ·exact jl
 clear hK;refine bX [10,11] ?_;refine cM 12 fun K hK=>?_
 have hf4:=Gr.free 4;have Bb:aE W4 pb 4 h0:=Gr.af rfl;go_simp;have Yx:=aB (Box (W4.setCell ⟨pb,4,none⟩ (.slice B l.length kJ)) pb 217 (pI blocks q (.slice B l.length kJ) p0)) (Gr.store 4 _);have bM:=ae<|(ag.aj (ar pb) W4).setCell (p:=⟨pb,4,none⟩) (.inl (show ar pb pb from rfl)) (.slice B l.length kJ);refine jS hK ?_ fun aH=>?_
 ·exact jl
 clear hK;refine cG ?_;clear aH;have Yi:=Yx.free 5;have Gn:aE (W4.setCell ⟨pb,4,none⟩ (.slice B l.length kJ)) pb 5 p0:=Yx.af rfl;generalize W4.setCell ⟨pb,4,none⟩ (.slice B l.length kJ)=W5 at *;go_wp2;go_ret;have aY:=bL.out;have hs3:=bn.size;have QU:=Yx.store 5 (aU ob l.length l.length);have nN:ag (ar pb) W4 (W5.setCell ⟨pb,5,none⟩ (aU ob l.length l.length)):=
  bM.setCell (p:=⟨pb,5,none⟩) (.inl (show ar pb pb from rfl)) _
 refine⟨rfl,⟨pb,ob,B,kJ⟩,rfl,⟨QU,(HH3.keep RW).mH nN fun h0 k hk e=>?_,nN.aq iM fun e=>?_,HP,fun h0 k o e=>?_⟩,fun k hk=>?_,((bn.trans RW).mono fun _ hk=>hk.elim).trans nN⟩
 ·have h1:=oh.out k hk;have h2:k=pb:=e;have h3:=bf.size;have:W2.drew.heap.size=W2.heap.size:=rfl;omega
 ·have h1:=CT.out;have h2:ob=pb:=e;omega
 ·have e:B=some ⟨k,o,none⟩:=e;have hk:aK (.slice B l.length kJ) k:=by rw[e];exact aG.2 rfl
  obtain⟨cs,hb⟩:=Gs.out k hk;have h1:=oh.out k hk;have h3:=bf.size;have:W2.drew.heap.size=W2.heap.size:=rfl;exact⟨cs,nN.aq (RW.aq hb id) fun e2=>by
   have h2:k=pb:=e2;omega⟩
 ·have h3:=bf.size;have:W2.drew.heap.size=W2.heap.size:=rfl;rcases hk with e|e|⟨o,e⟩
  ·exact .inl e
  ·have h1:=CT.out;have e:k=ob:=e;exact .inr ao
  ·have e:B=some ⟨k,o,none⟩:=e;have h1:=oh.out k gR;exact .inr ao
def aer (w W:World)(t:Value)(wr:World):Prop:=∃k:Nat,k≤3∧t=ah k∧∃m,w.drewN m=wr
def aaT (blocks:Int)(q:Nat→Int)(l:List aS)(w:World)(e:Ending)(w':World):Prop:=
 ∃i:nT,e= .returned (.tuple #[aO i.pb,ah 0])∧jM w' i blocks q l (eW l q)∧(∀k,i.F k→w.heap.size≤k)∧ag az w w'
theorem Eh {blocks:Int}{q:Nat→Int}{l:List aS}{A:Option Addr}{n c:Nat}(w:World)(bw:aW w A n c l)(hP:dY blocks l)
 (hb:1≤blocks∧blocks≤32) (hq:∀t,t<3→1≤q t∧q t≤16):
 Calls Tryz.prog 99 #[.slice A n c,ah blocks,.agg (gB q)] w (aaT blocks q l w):=by
 have kx:=ae bw;have HP:=ae hP;have Km:=ae hb;have HQ:=ae hq;have fB:¬blocks<1:=ao;have dX:¬32<blocks:=ao;have HB:=ae<|Box.fresh w 22 (gB q);have HO:=ae<|(ag.aj az w).alloc (.cells (gB q) 22);clear bw hP hq hb
 go_enter Tryz.func99,Tryz.ntmps99
 go_upto_region 1 with fail;change Code.wp _ _ _ _ (w.alloc (.cells (gB q) 22));generalize w.alloc (.cells (gB q) 22)=W at *;obtain⟨cb,fL⟩:∃cb,cb=w.heap.size:=⟨_,rfl⟩;rw[←fL]at HB ⊢;clear fL;go_upto_region 2 with(refine fH (gB q) HB Tryz.underlying22 ?_)
 go_loopw [13] (fun t wr=>aer W W t wr) (fun t _=>3 - (intOf t).toNat)
 case atStart=>exact⟨0,ao,rfl,0,rfl⟩
 case round=>
  obtain⟨k,hk,rfl,m,rfl⟩:=hrel
  by_cases aY:k<3
  ·have hq:=HQ.out k aY;have hq1:¬q k<1:=ao;have hq2:¬16<q k:=ao;have pr:(k:Int)<3:=ao;have hix:=jb (P:=Tryz.prog) (W.drewN m) 22 3 3 (gB q) .i64 k (ah (q k)) Tryz.underlying22 bZ bZ ao pr (by simpa using Nu q aY);generalize q k=qk at *;have bL:=ae aY;clear hq aY hk;go_wp2_with fail
   go_roundw
   case rel=>exact⟨k+1,bL,by go_num,m,rfl⟩
   case measure=>simp[intOf];have:=bL.out;omega
  ·obtain rfl:k=3:=ao;clear aY hk;have cO:=ae<|HB.drewN m;have bf:=ae<|HO.drewN m;generalize W.drewN m=W2 at *;go_upto_region 10 with(first|(refine fH (gB q) cO Tryz.underlying22 ?_)|(refine gU rfl _ _ rfl [(0,ah blocks),(1,.agg (gB q))] _ (by simp[Act.eval,Act.put]) (L9 blocks q) ?_));have dM:=ae<|Box.fresh W2 217 (pI blocks q aJ aJ);have bn:=ae<|bf.alloc (.cells (pI blocks q aJ aJ) 217);change Code.wp _ _ _ _ (W2.alloc (.cells (pI blocks q aJ aJ) 217));generalize W2.alloc (.cells (pI blocks q aJ aJ) 217)=W3 at *;obtain⟨pb,NH⟩:∃pb,pb=W2.heap.size:=⟨_,rfl⟩;have HPB:=ae (show w.heap.size≤pb by rw[NH];exact bf.size);rw[←NH]at dM ⊢;clear NH;have HS:=ae (TG W3 dM (kx.keep bn) HP Km fun t ht=>by have:=HQ.out t ht;omega);go_wp2_with (go_at_call 122;refine HS.mono ?_;rintro e W4 ⟨rfl,i,rfl,h1,h2,h3⟩;have H1:=ae h1;have H2:=ae h2;have H3:=ae h3;clear h1 h2 h3);go_ret2;have hs:=bn.size;have hp:=HPB.out;exact⟨i,rfl,H1,fun k hk=>(H2 k hk).elim (fun e=>by omega) fun e=>by omega,bn.aC H3 fun k hk=>.inr (by rw[show k=i.pb from hk];exact hp)⟩
end
end
theorem o3 {S:Nat→List Int}(hn:∀r,(S r).Nodup)(b y:Int)(r:Nat):y∈dh S b r↔y∈S r∧y≠b:=by
 unfold dh;rw[(hn r).mem_erase_iff];exact And.comm
theorem pO (S:Nat→List Int)(i:Nat)(b y:Int)(r:Nat):y∈bD S i b r↔y∈S r∨(r=i∧y=b):=by
 unfold bD aI
 by_cases e:r=i
 ·subst e;rw[if_pos rfl,List.mem_cons];exact⟨fun h=>h.elim (fun e=>.inr ⟨rfl,e⟩) .inl,fun h=>h.elim .inr fun h=>.inl h.2⟩
 ·rw[if_neg e];exact⟨.inl,fun h=>h.elim id fun h=>absurd h.1 e⟩
theorem uB (S:Nat→List Int)(y:Int):∀n,y∈cW S n↔∃r,r<n∧y∈S r
 |0=>by simp[cW]
 |n+1=>by
  rw[iu,List.mem_append,uB S y n]
  constructor
  ·rintro(⟨r,h1,h2⟩|h)
   ·exact⟨r,ao,h2⟩
   ·exact⟨n,ao,h⟩
  ·rintro⟨r,h1,h2⟩
   by_cases e:r=n
   ·exact .inr (e▸h2)
   ·exact .inl ⟨r,ao,h2⟩
structure dr (l:List aS)(O:Nat→Nat→Int)(t:Nat)(S:Nat→List Int):Prop where
 at_:∀{r:Nat} {b:Int},b∈S r→r=bj l b∧r<l.length∧0≤b∧b<64
 nodup:∀r,(S r).Nodup
 most:∀r,r<l.length→((S r).length:Int)≤O r t
section
variable {l:List aS}{O:Nat→Nat→Int}{t:Nat}{S:Nat→List Int}
theorem dr.mem (h:dr l O t S)(b:Int):b∈cW S l.length↔b∈S (bj l b):=by
 rw[uB]
 constructor
 ·rintro⟨r,_,h2⟩;rw[←(h.at_ h2).1];exact h2
 ·exact fun h2=>⟨_,(h.at_ h2).2.1,h2⟩
theorem dr.no (h:dr l O t S){b:Int}(hb:b∉cW S l.length):∀r,b∉S r:=fun r h2=>by
 rw[h.mem b,←(h.at_ h2).1]at hb;exact hb h2
theorem dr.KW (h:dr l O t S):∀n,n≤l.length→(cW S n).Nodup
 |0,_=>by simp[cW]
 |n+1,hn=>by
  rw[iu,List.nodup_append];refine⟨h.KW n ao,h.nodup n,fun a ha b hb e=>?_⟩;subst e;obtain⟨r,h1,h2⟩:=(uB S a n).1 ha;have e1:=(h.at_ h2).1;have e2:=(h.at_ hb).1;omega
theorem dr.rem (h:dr l O t S)(b:Int):dr l O t (dh S b) where
 at_:=fun hy=>h.at_ ((o3 h.nodup b _ _).1 hy).1
 nodup:=fun r=>(h.nodup r).erase b
 most:=fun r hr=>by
  have h1:=h.most r hr;have h2:(dh S b r).length≤(S r).length:=List.length_erase_le;omega
theorem dr.front (h:dr l O t S){b:Int}(h0:0≤b)(h1:b<64)(hr:bj l b<l.length)(hb:∀r,b∉S r)(hl:((S (bj l b)).length:Int)<O (bj l b) t):dr l O t (bD S (bj l b) b) where
 at_:=fun {r y} hy=>by
  rcases(pO S _ b y r).1 hy with hy|⟨rfl,rfl⟩
  ·exact h.at_ hy
  ·exact⟨rfl,hr,h0,h1⟩
 nodup:=fun r=>by
  unfold bD aI
  split
  ·rename_i e
   exact List.nodup_cons.2 ⟨hb _,h.nodup _⟩
  ·exact h.nodup r
 most:=fun r wB=>by
  unfold bD aI
  split
  ·rename_i e
   subst e;simp only[List.length_cons];omega
  ·exact h.most r wB
def dH (l:List aS)(O:Nat→Nat→Int)(t:Nat)(S:Nat→List Int)(b:Int):(Nat→List Int)×Int×Bool:=
 if b∈S (bj l b)then(bD (dh S b) (bj l b) b,0,false)
 else if((S (bj l b)).length:Int)<bO l O b t then(bD (dh S b) (bj l b) b,0,false)
 else(bD (dh (dh S (hZ l S (bj l b) b)) b) (bj l b) b,hZ l S (bj l b) b,true)
theorem BS {b:Int}(h:0<bO l O b t):bj l b<l.length∧bO l O b t=O (bj l b) t:=by
 have h1:=BU h;refine⟨h1,?_⟩;unfold bO;rw[if_pos h1]
theorem adZ {L:List Int}(h:L≠[]):Go.Proofs.YtchofaecncibjaaGreat.hd L∈L:=by
 cases L with
 |nil=>exact absurd rfl h
 |cons a L=>exact List.mem_cons_self ..
theorem ua {r:Nat}{b:Int}(h:S r≠[]):hZ l S r b∈S r:=by
 unfold hZ
 split
 ·exact adZ h
 ·exact xM h
theorem Iu {b:Int}{r:Nat}(hb:b∈S r):((dh S b r).length:Int)=(S r).length - 1:=by
 have h1:=List.length_pos_of_mem hb;unfold dh;rw[List.length_erase_of_mem hb];omega
theorem dr.use (h:dr l O t S){b:Int}(hb:b∈S (bj l b)):dr l O t (bD (dh S b) (bj l b) b)∧∀y,y∈cW (bD (dh S b) (bj l b) b) l.length↔y∈cW S l.length:=by
 have ha:=h.at_ hb;have hI:dr l O t (bD (dh S b) (bj l b) b):=(h.rem b).front ha.2.2.1 ha.2.2.2 ha.2.1 (fun r hr=>((o3 h.nodup b b r).1 hr).2 rfl) (by
  have:=h.most _ ha.2.1;rw[Iu hb];omega)
 refine⟨hI,fun y=>?_⟩;rw[hI.mem,h.mem,pO,o3 h.nodup]
 constructor
 ·rintro(⟨h1,_⟩|⟨h1,rfl⟩)
  ·exact h1
  ·exact hb
 ·intro h1
  by_cases e:y=b
  ·exact .inr ⟨by rw[e],e⟩
  ·exact .inl ⟨h1,e⟩
theorem dr.Kn (h:dr l O t S)(b y:Int):y∈cW (dh S b) l.length↔y∈cW S l.length∧y≠b:=by
 rw[(h.rem b).mem,h.mem,o3 h.nodup]
theorem sq{P:Prop}(h:P:=by
 constructor
 ·rintro(h2|⟨_,h2⟩)
  ·exact .inr h2
  ·exact .inl h2
 ·rintro(h2|h2)
  ·exact .inr ⟨by rw[h2],h2⟩
  ·exact .inl h2):P:=h
theorem dr.add (h:dr l O t S){b:Int}(h0:0≤b)(h1:b<64)(hp:0<bO l O b t):dr l O t (dH l O t S b).1∧
 (((dH l O t S b).2.2=false∧(dH l O t S b).2.1=0∧∀y,y∈cW (dH l O t S b).1 l.length↔y=b∨y∈cW S l.length)∨
  ((dH l O t S b).2.2=true∧(dH l O t S b).2.1∈cW S l.length∧b∉cW S l.length∧∀y,y∈cW (dH l O t S b).1 l.length↔y=b∨(y∈cW S l.length∧y≠(dH l O t S b).2.1))):=by
 obtain⟨hr,ZE⟩:=BS hp;unfold dH
 by_cases hb:b∈S (bj l b)
 ·rw[if_pos hb];obtain⟨hI,hm⟩:=h.use hb;refine⟨hI,.inl ⟨rfl,rfl,fun y=>?_⟩⟩;rw[hm y];exact⟨.inr,fun h2=>h2.elim (fun e=>by rw[e,h.mem];exact hb) id⟩
 ·rw[if_neg hb];have iQ:∀r,b∉S r:=h.no (by rw[h.mem];exact hb)
  by_cases hl:((S (bj l b)).length:Int)<bO l O b t
  ·rw[if_pos hl];rw[ZE]at hl;rw[KR iQ];have hI:=h.front h0 h1 hr iQ hl;refine⟨hI,.inl ⟨rfl,rfl,fun y=>?_⟩⟩;rw[hI.mem,h.mem,pO];exact sq
  ·rw[if_neg hl];have hne:S (bj l b)≠[]:=fun e=>by rw[e]at hl;simp at hl;omega
   have hv:=ua (l:=l) (b:=b) hne;generalize hm:hZ l S (bj l b) b=m at *;have acG:∀r,b∉dh S m r:=fun r hr=>iQ r ((o3 h.nodup m b r).1 hr).1
   rw[KR acG];have hI:=(h.rem m).front h0 h1 hr acG (by
    rw[Iu hv];have:=h.most _ hr;omega)
   have hmr:=(h.at_ hv).1;refine⟨hI,.inr ⟨rfl,by rw[h.mem,←hmr];exact hv,by rw[h.mem];exact hb,fun y=>?_⟩⟩;rw[hI.mem,h.mem,pO,o3 h.nodup];exact sq
end
section
open Go.ChangeShapes Go.RowKit Go.WideShapes
def tE.G (j:tE)(n:Nat):Nat→Prop:=fun k=>k=j.p∨k=j.g∨k=j.eb∨k=j.i.pb∨k=j.i.ob∨(0<n∧∃o,j.i.A=some ⟨k,o,none⟩)
structure wW (blocks:Int)(q:Nat→Int)(l:List aS)(O:Nat→Nat→Int)(t:Nat)(j:tE)(S:Nat→List Int)(w:World):Prop where
 b:mY w j blocks q l O S
 i:dr l O t S
 t:j.t=t
 h:0<l.length→∀k o,j.i.A=some ⟨k,o,none⟩→k≠j.g∧k≠j.eb
section
variable {w w':World}{j:tE}{blocks:Int}{q:Nat→Int}{l:List aS}{O:Nat→Nat→Int}{t:Nat}{S S':Nat→List Int}
theorem jM.off {F:Nat→Prop}{i:nT}(h:jM w i blocks q l O)(ho:ag F w w')(h1:¬F i.pb)(h2:¬F i.ob)(h3:0<l.length→∀k o,i.A=some ⟨k,o,none⟩→¬F k):jM w' i blocks q l O:=
 ⟨ho.aq h.aq h1,h.bw.mH ho fun h0 k hk=>by
  obtain⟨g,o,e,_⟩:=h.bw.at_ 0 h0;rw[e]at hk;have:=aG.1 hk;subst this;exact h3 h0 g o e,ho.aq h.prt h2,h.hP,fun h0 k o e=>by obtain⟨cs,hb⟩:=h.ht h0 k o e;exact⟨cs,ho.aq hb (h3 h0 k o e)⟩⟩
theorem jM.ltA {i:nT}(h:jM w i blocks q l O)(h0:0<l.length):∀k o,i.A=some ⟨k,o,none⟩→k<w.heap.size:=fun k o e=>by
 obtain⟨g,o',e',hg,_⟩:=h.bw.at_ 0 h0;rw[e]at e';injection e' with e';injection e' with e1;subst e1;exact hg
theorem wW.aA {F:Nat→Prop}(h:wW blocks q l O t j S w)(ho:ag F w w')(hF:∀k,j.G l.length k→¬F k):wW blocks q l O t j S w':=
 ⟨⟨ho.aq h.b.aq (hF _ (.inl rfl)),h.b.sp.aA ho (hF _ (.inr (.inl rfl))) (hF _ (.inr (.inr (.inl rfl)))),h.b.pl.off ho (hF _ (.inr (.inr (.inr (.inl rfl))))) (hF _ (.inr (.inr (.inr (.inr (.inl rfl)))))) fun h0 k o e=>hF k (.inr (.inr (.inr (.inr (.inr ⟨h0,o,e⟩))))),h.b.t3⟩,h.i,h.t,h.h⟩
theorem wW.lt (h:wW blocks q l O t j S w):∀k,j.G l.length k→k<w.heap.size:=fun k hk=>by
 rcases hk with rfl|rfl|rfl|rfl|rfl|⟨h0,o,e⟩
 ·exact h.b.aq.lt
 ·exact h.b.sp.Qc.1
 ·exact h.b.sp.Qc.2
 ·exact h.b.pl.aq.lt
 ·exact h.b.pl.prt.lt
 ·exact h.b.pl.ltA h0 k o e
theorem wW.Aj (h:wW blocks q l O t j S w)(hs:jV w' j.g j.eb (l.length+1) S')(ho:ag (uZ j.g j.eb) w w')(hi:dr l O t S'):wW blocks q l O t j S' w':=by
 obtain⟨N,E,hm,_⟩:=h.b.sp;have n1:¬uZ j.g j.eb j.p:=fun e=>e.elim (h.b.aq.off hm.1 aD) (h.b.aq.off hm.2 aD)
 have n2:¬uZ j.g j.eb j.i.pb:=fun e=>e.elim (h.b.pl.aq.off hm.1 aD) (h.b.pl.aq.off hm.2 aD)
 have n3:¬uZ j.g j.eb j.i.ob:=fun e=>e.elim (h.b.pl.prt.off hm.1 aD) (h.b.pl.prt.off hm.2 aD)
 exact⟨⟨ho.aq h.b.aq n1,hs,h.b.pl.off ho n2 n3 fun h0 k o e e2=>e2.elim (h.h h0 k o e).1 (h.h h0 k o e).2,h.b.t3⟩,hi,h.t,h.h⟩
theorem Hd {n:Nat}:∀k,uZ j.g j.eb k→j.G n k:=fun k hk=>hk.elim (fun e=>.inr (.inl e)) fun e=>.inr (.inr (.inl e))
end
def YQ (l:List aS)(O:Nat→Nat→Int)(t:Nat):eY (Nat→List Int):=
 ⟨fun S=>cW S l.length,fun S b=>bD (dh S b) (bj l b) b,dH l O t,fun S b=>dh S b,fun _=>0,fun b=>0<bO l O b t⟩
def zN:OFn:=⟨189,192,187,191,188,190⟩
theorem oY (p : Nat) : mN 178 (aO p) "Has" zN.has ∧ mN 178 (aO p) "Use" zN.use ∧ mN 178 (aO p) "Add" zN.add ∧
 mN 178 (aO p) "Remove" zN.rem ∧ mN 178 (aO p) "All" zN.all :=
 ⟨⟨fun w=>by kernel_rfl,fun a w=>by kernel_rfl⟩,⟨fun w=>by kernel_rfl,fun a w=>by kernel_rfl⟩,⟨fun w=>by kernel_rfl,fun a w=>by kernel_rfl⟩,
  ⟨fun w=>by kernel_rfl,fun a w=>by kernel_rfl⟩,⟨fun w=>by kernel_rfl,fun a w=>by kernel_rfl⟩⟩
section
variable {blocks:Int}{q:Nat→Int}{l:List aS}{O:Nat→Nat→Int}{t:Nat}
theorem WS (j:tE):VV (YQ l O t) 178 (aO j.p) zN (j.G l.length) (wW blocks q l O t j) where
 Ry:=(oY j.p).1
 Rw:=(oY j.p).2.1
 RA:=(oY j.p).2.2.1
 Rx:=(oY j.p).2.2.2.1
 Rz:=(oY j.p).2.2.2.2
 ptr:=⟨j.p,rfl,.inl rfl⟩
 aA:=fun h ho hF=>h.aA ho hF
 lt:=fun h k hk=>h.lt k hk
 has:=fun {s w} b h=>by
  show Calls Tryz.prog 189 _ w fun e w'=>e= .returned (.bool (decide (b∈cW s l.length)))∧ag az w w'
  by_cases hb:b∈cW s l.length
  ·rw[decide_eq_true hb];rw[h.i.mem]at hb;exact(vZ w h.b hb).mono fun e w' ⟨h1,h2⟩=>⟨h1,h2▸ag.aj _ _⟩
  ·rw[decide_eq_false hb];exact(Cn w h.b (h.i.no hb)).mono fun e w' ⟨h1,h2⟩=>⟨h1,h2▸ag.aj _ _⟩
 all:=fun h=>M4 _ h.b
 use:=fun {s w b} h hb _=>by
  have hb:b∈cW s l.length:=hb;rw[h.i.mem]at hb;have ha:=h.i.at_ hb;obtain⟨n,rfl⟩:=Int.eq_ofNat_of_zero_le ha.2.2.1;exact(Cm w h.b ao ao hb).mono fun e w' ⟨h1,h2,h3⟩=>⟨h1,h.Aj h2 h3 (h.i.use hb).1,h3.mono fun k hk=>.inl (Hd k hk)⟩
 add:=fun {s w b} h h0 h1 ht _=>by
  obtain⟨n,rfl⟩:=Int.eq_ofNat_of_zero_le h0;have ht:0<bO l O n t:=ht;have hA:=(h.i.add ao h1 ht).1;have htj:0<bO l O n j.t:=by rw[h.t];exact ht
  show Calls Tryz.prog 187 _ w fun e w'=>e= .returned (.tuple #[ah (dH l O t s n).2.1,.bool (dH l O t s n).2.2,ah 0])∧wW blocks q l O t j (dH l O t s n).1 w'∧ag (j.G l.length) w w'
  unfold dH at hA ⊢
  by_cases hb:(n:Int)∈s (bj l n)
  ·rw[if_pos hb]at hA ⊢;exact(Ls w h.b (by have:=(h.i.at_ hb).2.1;omega) ao hb htj).mono fun e w' ⟨h1,h2,h3⟩=>⟨h1,h.Aj h2 h3 hA,h3.mono fun k hk=>.inl (Hd k hk)⟩
  ·rw[if_neg hb]at hA ⊢;have iQ:∀r,(n:Int)∉s r:=h.i.no (by rw[h.i.mem];exact hb)
   by_cases hl:((s (bj l n)).length:Int)<bO l O n t
   ·rw[if_pos hl]at hA ⊢;exact(FP w h.b ao iQ htj (by rw[h.t];exact hl)).mono fun e w' ⟨h1,h2,h3⟩=>⟨h1,h.Aj h2 h3 hA,h3.mono fun k hk=>.inl (Hd k hk)⟩
   ·rw[if_neg hl]at hA ⊢;have hne:s (bj l n)≠[]:=fun e=>by rw[e]at hl;simp at hl;omega
    have hv:=ua (l:=l) (b:=(n:Int)) hne;obtain⟨m,hm⟩:=Int.eq_ofNat_of_zero_le (h.i.at_ hv).2.2.1;have ZH:hZ l s (bj l n) n=(m:Int):=hm;rw[ZH]at hA hv ⊢;exact(FQ w h.b ao iQ htj (by rw[h.t];omega) ZH hv).mono fun e w' ⟨h1,h2,h3⟩=>⟨h1,h.Aj h2 h3 hA,h3.mono fun k hk=>.inl (Hd k hk)⟩
 rem:=fun {s w b} h hb=>by
  have hb:b∈cW s l.length:=hb;rw[h.i.mem]at hb;have ha:=h.i.at_ hb;obtain⟨n,rfl⟩:=Int.eq_ofNat_of_zero_le ha.2.2.1;exact(Lr w h.b hb).mono fun e w' ⟨h1,h2,h3⟩=>⟨h1,h.Aj h2 h3 (h.i.rem _),h3.mono fun k hk=>.inl (Hd k hk)⟩
 kA:=fun {s w b} h hb=>by
  have hb:b∈cW s l.length:=hb;rw[h.i.mem]at hb;exact(h.i.at_ hb).2.2
 nodup:=fun h=>h.i.KW _ (dm _)
 GO:=fun h h0 h1 ht=>(h.i.add h0 h1 ht).2
 Rh:=fun {s w b} h hb=>by
  have hb:b∈cW s l.length:=hb;rw[h.i.mem]at hb;exact(h.i.use hb).2
 Kn:=fun {s w b} h hb y=>h.i.Kn b y
 VS:=fun _ _=>Nat.le_succ _
 VT:=fun _ _=>Nat.le_succ _
 KA:=fun _ _=>Nat.le_refl _
theorem D8:∀n,cW (fun _=>[]) n= []
 |0=>rfl
 |n+1=>by rw[iu,D8 n];rfl
def adT (blocks:Int)(q:Nat→Int)(l:List aS)(O:Nat→Nat→Int)(t:Nat):aZ:=
 ⟨Nat→List Int,tE,YQ l O t,178,zN,fun j=>aO j.p,fun j=>j.G l.length,fun j=>wW blocks q l O t j,fun _=>[],fun j=>WS j,D8 _⟩
end
def dV (c:aM):Nat→Int:=fun t=>c.f (9+t)
def pJ (c:aM)(k:Nat):aZ:=adT (c.f 2) (dV c) c.h (eW c.h (dV c)) k
theorem xW (i:Nat)(s:yC)(t r x:Nat):(fa i s t).o r x=if r=i∧x=t then min s.left (s.c t)else s.o r x:=rfl
def pE (o:Nat→Nat→Int)(x:Nat):Nat→Int
 |0=>0
 |n+1=>pE o x n+o n x
theorem II (o:Nat→Nat→Int)(x i:Nat)(v:Int)(hz:o i x=0):∀n,pE (fun r y=>if r=i∧y=x then v else o r y) x n=pE o x n+if i<n then v else 0
 |0=>by simp[pE]
 |n+1=>by
  unfold pE;rw[II o x i v hz n]
  by_cases e:n=i
  ·subst e;have h1:(if n=n∧x=x then v else o n x)=v:=if_pos ⟨rfl,rfl⟩;have h2:(if n<n then v else 0)=0:=if_neg ao;have h3:(if n<n+1 then v else 0)=v:=if_pos ao;rw[h1,h2,h3];omega
  ·have h1:(if n=i∧x=x then v else o n x)=o n x:=if_neg (fun h=>e h.1);rw[h1]
   by_cases h2:i<n
   ·rw[if_pos h2,if_pos ao];omega
   ·rw[if_neg h2,if_neg ao];omega
theorem wq (o o':Nat→Nat→Int)(x:Nat)(h:∀r,o r x=o' r x):∀n,pE o x n=pE o' x n
 |0=>rfl
 |n+1=>by unfold pE;rw[wq o o' x h n,h n]
structure AlB (q:Nat→Int)(n:Nat)(D:Nat→Prop)(s:yC):Prop where
 o0:∀r x,0≤s.o r x
 c0:∀x,x<3→0≤s.c x
 sum:∀x,x<3→pE s.o x n+s.c x=q x
 no:∀r x,¬D r→s.o r x=0
theorem EC {q:Nat→Int}{n:Nat}{D:Nat→Prop}{l:List aS}{s:yC}{i:Nat}(h:AlB q n D s)(hi:¬D i)(bw:i<n)(hl:0≤(l.getD i default).size):
 ∀k,k≤3→0≤(iJ l s i k).left∧AlB q n (fun r=>D r∨r=i) (iJ l s i k)∧∀x,k≤x→(iJ l s i k).o i x=0
 |0,_=>⟨hl,⟨h.o0,h.c0,h.sum,fun r x hr=>h.no r x fun e=>hr (.inl e)⟩,fun x _=>h.no i x hi⟩
 |k+1,hk=>by
  obtain⟨h1,h2,h3⟩:=EC h hi bw hl k ao;rw[wv];generalize iJ l s i k=m at *;have hc:=h2.c0 k ao;refine⟨by unfold fa;dsimp only;omega,⟨fun r x=>?_,fun x hx=>?_,fun x hx=>?_,fun r x hr=>?_⟩,fun x hx=>?_⟩
  ·rw[xW];split
   ·omega
   ·exact h2.o0 r x
  ·unfold fa;dsimp only;split
   ·omega
   ·exact h2.c0 x hx
  ·have hs:=h2.sum x hx
   by_cases e:x=k
   ·subst e;have e1:pE (fa i m x).o x n=pE m.o x n+min m.left (m.c x):=by
     have:=II m.o x i (min m.left (m.c x)) (h3 x (dm _)) n;rw[if_pos bw]at this;exact this
    rw[e1];unfold fa;dsimp only;rw[if_pos rfl];omega
   ·rw[wq (fa i m k).o m.o x (fun r=>by rw[xW,if_neg (fun h=>e h.2)])];unfold fa;dsimp only;rw[if_neg e];exact hs
  ·rw[xW,if_neg (fun e=>hr (.inr e.1))];exact h2.no r x hr
  ·rw[xW,if_neg (fun e=>by omega)];exact h3 x ao
theorem JH {q:Nat→Int}{n:Nat}{D:Nat→Prop}{l:List aS}{s:yC}{i:Nat}(h:AlB q n D s)(hi:¬D i)(bw:i<n)(hl:0≤(l.getD i default).size):AlB q n (fun r=>D r∨r=i) (ll l s i):=by
 obtain⟨h1,h2,h3⟩:=EC (l:=l) h hi bw hl 3 (dm _);rw[kU];generalize iJ l s i 3=m at *;refine⟨fun r x=>?_,h2.c0,fun x hx=>?_,fun r x hr=>?_⟩
 ·dsimp only;split
  ·exact h1
  ·exact h2.o0 r x
 ·have:=h2.sum x hx;rw[wq _ m.o x (fun r=>by dsimp only;rw[if_neg (fun h=>by omega)])];exact this
 ·dsimp only;rw[if_neg (fun e=>hr (.inr e.1))];exact h2.no r x hr
theorem CA {q:Nat→Int}{n:Nat}{l:List aS}(hl:∀i,i<n→0≤(l.getD i default).size):∀(ord:List Nat) {D:Nat→Prop} {s:yC},AlB q n D s→ord.Nodup→(∀x∈ord,¬D x∧x<n)→∃D',AlB q n D' (ord.foldl (ll l) s)
 | [],D,s,h,_,_=>⟨D,h⟩
 |i :: ord,D,s,h,hn,ho=>by
  have h1:=ho i (List.mem_cons_self ..);rw[List.nodup_cons]at hn;refine CA hl ord (JH h h1.1 h1.2 (hl i h1.2)) hn.2 fun x hx=>⟨fun e=>e.elim (ho x (List.mem_cons_of_mem _ hx)).1 fun e=>hn.1 (e▸hx),(ho x (List.mem_cons_of_mem _ hx)).2⟩
theorem Er (x:Nat):∀n,pE (fun _ _=>0) x n=0
 |0=>rfl
 |n+1=>by unfold pE;rw[Er x n];rfl
theorem XW {blocks:Int}{l:List aS}(hP:dY blocks l){q:Nat→Int}(hq:∀x,x<3→0≤q x)(hn:(bq (bE l)).Nodup):(∀r x,0≤eW l q r x)∧∀x,x<3→pE (eW l q) x l.length≤q x:=by
 obtain⟨D,h⟩:=CA (q:=q) (n:=l.length) (l:=l) (fun i hi=>by have:=hP.1 i hi;unfold zA at this;omega) (bq (bE l)) (D:=fun _=>False) (s:=⟨q,fun _ _=>0,0⟩)
  ⟨fun _ _=>Int.le_refl _,hq,fun x hx=>by show pE (fun _ _=>0) x l.length+q x=q x;rw[Er];omega,fun _ _ _=>rfl⟩ hn fun x hx=>⟨id,by have:=mU (bE l) x hx;rwa [cr]at this⟩
 exact⟨h.o0,fun x hx=>by have h1:=h.sum x hx;have h2:=h.c0 x hx;unfold eW Hq;omega⟩
section
theorem TE {l:List aS}{O:Nat→Nat→Int}{t:Nat}(h:∀r,r<l.length→0≤O r t):dr l O t (fun _=>[]):=
 ⟨fun h=>(by cases h),fun _=>List.nodup_nil,fun r hr=>(by have:=h r hr;simpa using this)⟩
theorem O0 {c:aM}{k:Nat}(hP:cK c)(hk:k<3)(hp:c.f 5=2)(hO:∀r,r<c.h.length→0≤eW c.h (dV c) r k):(pJ c k).Made c (k+1):=by
 intro w A n cp bw;have HN:=ae<|fun w (h:aW w A n cp c.h)=>Eh (q:=dV c) w h hP.hs hP.p2 fun t ht=>hP.pc t ht;have HPN:=ae<|fun w i (h:jM w i (c.f 2) (dV c) c.h (eW c.h (dV c)))=>WT (t:=k) w h hk;have HC:=ae<|fun(W:World) (bb:Nat) (hb:Box W bb 25 (ak c (.slice A n cp))) (i:Nat) (hi:i<16)=>hb.af (aL c (.slice A n cp) hi);have HH:=ae<|fun(W:World) (bb:Nat) (hb:Box W bb 25 (ak c (.slice A n cp)))=>hb.af (fA c (.slice A n cp));have kx:=ae bw;have Q8:=ae hO;have hw:IntKind.i64.wrap (((k+1:Nat):Int) - 1)=k:=by rw[IntKind.wrap_i64];omega
 have ZK:(k:Int)<3:=ao;have lK:=ae hp
 show Calls Tryz.prog 67 #[.agg (ak c (.slice A n cp)),ah ((k+1:Nat):Int)] w (Sr (pJ c k) w)
 clear bw hO hp
 go_enter Tryz.func67,Tryz.ntmps67
 go_upto_region 1 with fail;have HB:=ae<|Box.fresh w 25 (ak c (.slice A n cp));have HO:=ae<|(ag.aj az w).alloc (.cells (ak c (.slice A n cp)) 25);change Code.wp _ _ _ _ (w.alloc (.cells (ak c (.slice A n cp)) 25));generalize w.alloc (.cells (ak c (.slice A n cp)) 25)=W1 at *;generalize w.heap.size=bb at *;have c5:=HC.out W1 bb HB 5 aD;rw[lK.out]at c5;have c2:=HC.out W1 bb HB 2 aD;have ck:=HC.out W1 bb HB (9+k) ao;have c9:=HC.out W1 bb HB 9 aD;have Vl:=HC.out W1 bb HB 10 aD;have Z2:=HC.out W1 bb HB 11 aD;have Mr:=HH.out W1 bb HB;have Gc:Hid (Calls Tryz.prog 99 #[.slice A n cp,ah (c.f 2),.agg #[ah (c.f 9),ah (c.f 10),ah (c.f 11)]] W1 (aaT (c.f 2) (dV c) c.h W1)):=ae<|HN W1 (kx.keep HO);clear HC HH HN lK;go_upto_region 4 with(go_at_call 99;refine Gc.mono ?_;rintro e W2 ⟨i,rfl,h1,h2,h3⟩;have H1:=ae h1;have H2:=ae h2;have H3:=ae h3;clear h1 h2 h3);clear c5 c2 ck c9 Vl Z2 Mr Gc;have afL:=ae<|HPN W2 i H1;clear HPN;go_wp2_with (go_at_call 100;refine afL.mono ?_;rintro e W3 ⟨p,g,eb,rfl,h1,h2,h3,h4,h5⟩;have G1:=ae h1;have G2:=ae h2;have G3:=ae h3;have G4:=ae h4;have G5:=ae h5;clear h1 h2 h3 h4 h5);go_ret;have pA:=HO.size;have kC:=H3.size;refine⟨⟨p,g,eb,i,k⟩,rfl,⟨G1.out,TE Q8,rfl,fun h0 kk o e=>?_⟩,fun j hj=>?_,(HO.trans H3).trans G5.out⟩
 ·have h1:=H1.ltA h0 kk o e;have h2:=G3.out;have h3:=G4.out
  show kk≠g∧kk≠eb
  omega
 ·have h2:=G2.out;have h3:=G3.out;have h4:=G4.out;rcases hj with rfl|rfl|rfl|rfl|rfl|⟨h0,o,e⟩
  ·omega
  ·omega
  ·omega
  ·have:=H2.out i.pb (.inl rfl);show w.heap.size≤i.pb;omega
  ·have:=H2.out i.ob (.inr (.inl rfl));show w.heap.size≤i.ob;omega
  ·have:=H2.out j (.inr (.inr ⟨o,e⟩));omega
end
end
end Go.Proofs.YtchofaecncibjaaGreat

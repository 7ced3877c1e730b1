/- Lemmas. -/
import Derived.Test.YtpcfhbeakecihaaGreatM22
import Derived.Test.YtpcfhbeakecihaaGreatM24
set_option linter.all false
set_option maxHeartbeats 20000000
set_option maxRecDepth 100000
namespace Go.Proofs.YtpcfhbeakecihaaGreat
section
open Go.ChangeShapes Go.RowKit Go.WideShapes
def eO (blocks:Int)(q:Nat→Int)(h p:Value):Array Value:=#[ah blocks,ah (q 0),ah (q 1),ah (q 2),h,p]
theorem qy (blocks:Int)(q:Nat→Int)(h p:Value){j:Nat}{v:Value}(hj:(c8 q).toList[j]? =some v):(eO blocks q h p)[1+j]? =some v:=by
 have h3:j<3:=(List.getElem?_eq_some_iff.1 hj).1;rcases(show j=0∨j=1∨j=2 by omega)with rfl|rfl|rfl<;>exact hj
theorem qY (blocks:Int)(q:Nat→Int):Tryz.prog.built 191 [(0,ah blocks),(1,.agg (c8 q))]=some (eO blocks q ey ey):=by kernel_rfl
def yP (pb:Nat)(blocks:Int)(q:Nat→Int)(l:List au)(w w':World):Prop:=
 ∃i:ei,i.pb=pb∧cH w' i blocks q l (gw l q)∧(∀k,i.F k→k=pb∨w.heap.size≤k)∧af (aM pb) w w'
section
theorem cu{P:Prop}(h:P:=by
 first|exact⟨⟨_,FM⟩,((b7.trans uG).mono fun _ hk=>hk.elim).trans kh⟩|exact⟨⟨_,FN⟩,(b7.trans uG).mono fun _ hk=>hk.elim⟩|exact⟨⟨_,FO⟩,b7.mono fun _ hk=>hk.elim⟩|exact⟨⟨_,LW.drew⟩,bR.drew.mono fun _ hk=>hk.elim⟩):P:=h
theorem vO {pb:Nat}{blocks:Int}{q:Nat→Int}{l:List au}{A:Option Addr}{n c:Nat}{h0 p0:Value}(w:World)(hx:Box w pb 191 (eO blocks q h0 p0))(bI:aL w A n c l)(hP:cW blocks l)
 (hb:1≤blocks∧blocks≤32) (hq:∀t,t<3→0≤q t∧q t≤16):
 Calls Tryz.prog 111 #[aI pb,.slice A n c] w fun e w'=>e= .returned (ah 0)∧yP pb blocks q l w w':=by
 have HX:=ae hx;have tY:=ae bI;have HP:=ae hP;have HQ:=ae hq;have HL:=ae (show l.length≤100 by have:=hP.2.2;omega);have HC:=mh A n c l blocks w bI hb.1 hb.2;rw[kT hP]at HC;have HC:=ae HC;have x0:aF w pb 0 blocks:=hx.ag rfl;have cT:=ae hx.lt;clear hx bI hP hb hq
 go_enter Tryz.func111,Tryz.ntmps111
 go_upto_region 5 with(go_at_call 80;refine HC.mono ?_;rintro e W2 ⟨rfl,bd⟩);have LW:=ae<|bd.az HX id;have bR:=ae bd;clear bd x0 HC;refine kb (fun w':World=>(∃h,Box w' pb 191 (eO blocks q h p0))∧af (aM pb) w w') 13 ?_ ?_
 ·exact cu
 intro aX;refine eZ [0,1,2,4,5,6,7] ?_;refine bj (i:=8) (v:=.agg (c8 q)) bJ rfl bJ (fun _ _ _ h=>h) (yieldsIf_load_mid (by rfl) 22 _ rfl pb 1 rfl (c8 q).toList _ (fun w hw j v hj=>hw.1.elim fun h hb=>hb.ag (qy blocks q h p0 hj)) Tryz.underlying22 rfl bJ) (by assumption) ?_;refine sd ?_;refine lh 3 fun K hK=>?_
 go_simp;refine(jx W2.drew (tY.keep (bR.drew)) HL).mono ?_;rintro e W3 ⟨B,ir,rfl,BV,bQ,lV,Dz⟩;have FO:=ae<|bQ.az LW.drew id;have PB:=ae BV;have IB:=ae lV;have Pa:=ae Dz;have b7:=ae<|bR.drew.trans bQ;clear BV lV bQ Dz;refine lj hK ?_ fun aX=>?_
 ·exact cu
 clear hK;refine lh 9 fun K hK=>?_
 go_simp;refine(nJ W3 (tY.keep b7) HP HQ).mono ?_;rintro e W4 ⟨ob,rfl,Fz,Kl,gB⟩;have FN:=ae<|gB.az FO id;have uo:=ae Fz;have xg:=ae Kl;have uG:=ae gB;clear Fz Kl gB;refine lj hK ?_ fun aX=>?_
 ·exact cu
 clear hK;refine eZ [10,11] ?_;refine lh 12 fun K hK=>?_
 have KD:=FN.free 4;have rp:ba W4 pb 4 h0:=FN.ag rfl;go_simp;have FM:=aH (Box (W4.setCell ⟨pb,4,none⟩ (.slice B l.length ir)) pb 191 (eO blocks q (.slice B l.length ir) p0)) (FN.store 4 _);have kh:=ae<|(af.ak (aM pb) W4).setCell (p:=⟨pb,4,none⟩) (.inl (show aM pb pb from rfl)) (.slice B l.length ir);refine lj hK ?_ fun aX=>?_
 ·exact cu
 clear hK;refine jz ?_;clear aX;have QH:=FM.free 5;have QK:ba (W4.setCell ⟨pb,4,none⟩ (.slice B l.length ir)) pb 5 p0:=FM.ag rfl;generalize W4.setCell ⟨pb,4,none⟩ (.slice B l.length ir)=W5 at *;go_wp2;go_ret;have aO:=cT.out;have wZ:=b7.size;have Fy:=FM.store 5 (cS ob l.length l.length);have Fa:af (aM pb) W4 (W5.setCell ⟨pb,5,none⟩ (cS ob l.length l.length)):=
  kh.setCell (p:=⟨pb,5,none⟩) (.inl (show aM pb pb from rfl)) _
 refine⟨rfl,⟨pb,ob,B,ir⟩,rfl,⟨Fy,(PB.keep uG).jB Fa fun h0 k hk e=>?_,Fa.az uo fun e=>?_,HP,fun h0 k o e=>?_⟩,fun k hk=>?_,((b7.trans uG).mono fun _ hk=>hk.elim).trans Fa⟩
 ·have h1:=IB.out k hk;have h2:k=pb:=e;have h3:=bR.size;have:W2.drew.heap.size=W2.heap.size:=rfl;omega
 ·have h1:=xg.out;have h2:ob=pb:=e;omega
 ·have e:B=some ⟨k,o,none⟩:=e;have hk:aJ (.slice B l.length ir) k:=by rw[e];exact aq.2 rfl
  obtain⟨cs,hb⟩:=Pa.out k hk;have h1:=IB.out k hk;have h3:=bR.size;have:W2.drew.heap.size=W2.heap.size:=rfl;exact⟨cs,Fa.az (uG.az hb id) fun e2=>by
   have h2:k=pb:=e2;omega⟩
 ·have h3:=bR.size;have:W2.drew.heap.size=W2.heap.size:=rfl;rcases hk with e|e|⟨o,e⟩
  ·exact .inl e
  ·have h1:=xg.out;have e:k=ob:=e;exact .inr ai
  ·have e:B=some ⟨k,o,none⟩:=e;have h1:=IB.out k (by rw[e];exact aq.2 rfl);exact .inr ai
def Eu (w W:World)(t:Value)(wr:World):Prop:=∃k:Nat,k≤3∧t=ah k∧∃m,w.drewN m=wr
def DU (blocks:Int)(q:Nat→Int)(l:List au)(w:World)(e:Ending)(w':World):Prop:=
 ∃i:ei,e= .returned (.tuple #[aI i.pb,ah 0])∧cH w' i blocks q l (gw l q)∧(∀k,i.F k→w.heap.size≤k)∧af aA w w'
theorem tu {blocks:Int}{q:Nat→Int}{l:List au}{A:Option Addr}{n c:Nat}(w:World)(bI:aL w A n c l)(hP:cW blocks l)
 (hb:1≤blocks∧blocks≤32) (hq:∀t,t<3→1≤q t∧q t≤16):
 Calls Tryz.prog 81 #[.slice A n c,ah blocks,.agg (c8 q)] w (DU blocks q l w):=by
 have tY:=ae bI;have HP:=ae hP;have wQ:=ae hb;have HQ:=ae hq;have dq:¬blocks<1:=ai;have dF:¬32<blocks:=ai;have HB:=ae<|Box.fresh w 22 (c8 q);have HO:=ae<|(af.ak aA w).alloc (.cells (c8 q) 22);clear bI hP hq hb
 go_enter Tryz.func81,Tryz.ntmps81
 go_upto_region 1 with fail;change Code.wp _ _ _ _ (w.alloc (.cells (c8 q) 22));generalize w.alloc (.cells (c8 q) 22)=W at *;obtain⟨cb,si⟩:∃cb,cb=w.heap.size:=⟨_,rfl⟩;rw[←si]at HB ⊢;clear si;go_upto_region 2 with(refine pL (c8 q) HB Tryz.underlying22 ?_)
 go_loopw [13] (fun t wr=>Eu W W t wr) (fun t _=>3 - (intOf t).toNat)
 case atStart=>exact⟨0,ai,rfl,0,rfl⟩
 case round=>
  obtain⟨k,hk,rfl,m,rfl⟩:=hrel
  by_cases aO:k<3
  ·have hq:=HQ.out k aO;have CN:¬q k<1:=ai;have GQ:¬16<q k:=ai;have pP:(k:Int)<3:=ai;have QC:=iB (P:=Tryz.prog) (W.drewN m) 22 3 3 (c8 q) .i64 k (ah (q k)) Tryz.underlying22 bJ bJ ai pP (by simpa using r9 q aO);generalize q k=qk at *;have cT:=ae aO;clear hq aO hk;go_wp2_with fail
   go_roundw
   case rel=>exact⟨k+1,cT,by go_num,m,rfl⟩
   case measure=>simp[intOf];have:=cT.out;omega
  ·obtain rfl:k=3:=ai;clear aO hk;have eC:=ae<|HB.drewN m;have bR:=ae<|HO.drewN m;generalize W.drewN m=W2 at *;go_upto_region 10 with(first|(refine pL (c8 q) eC Tryz.underlying22 ?_)|(refine cj rfl _ _ rfl [(0,ah blocks),(1,.agg (c8 q))] _ (by simp[Act.eval,Act.put]) (qY blocks q) ?_));have kj:=ae<|Box.fresh W2 191 (eO blocks q ey ey);have b7:=ae<|bR.alloc (.cells (eO blocks q ey ey) 191);change Code.wp _ _ _ _ (W2.alloc (.cells (eO blocks q ey ey) 191));generalize W2.alloc (.cells (eO blocks q ey ey) 191)=W3 at *;obtain⟨pb,Ad⟩:∃pb,pb=W2.heap.size:=⟨_,rfl⟩;have FW:=ae (show w.heap.size≤pb by rw[Ad];exact bR.size);rw[←Ad]at kj ⊢;clear Ad;have HS:=ae (vO W3 kj (tY.keep b7) HP wQ fun t ht=>by have:=HQ.out t ht;omega);go_wp2_with (go_at_call 111;refine HS.mono ?_;rintro e W4 ⟨rfl,i,rfl,h1,h2,h3⟩;have H1:=ae h1;have H2:=ae h2;have H3:=ae h3;clear h1 h2 h3);go_ret2;have hs:=b7.size;have hp:=FW.out;exact⟨i,rfl,H1,fun k hk=>(H2 k hk).elim (fun e=>by omega) fun e=>by omega,b7.aE H3 fun k hk=>.inr (by rw[show k=i.pb from hk];exact hp)⟩
end
end
theorem eI {S:Nat→List Int}(hn:∀r,(S r).Nodup)(b y:Int)(r:Nat):y∈bE S b r↔y∈S r∧y≠b:=by
 unfold bE;rw[(hn r).mem_erase_iff];exact And.comm
theorem eU (S:Nat→List Int)(i:Nat)(b y:Int)(r:Nat):y∈aG S i b r↔y∈S r∨(r=i∧y=b):=by
 unfold aG aW
 by_cases e:r=i
 ·subst e;rw[if_pos rfl,List.mem_cons];exact⟨fun h=>h.elim (fun e=>.inr ⟨rfl,e⟩) .inl,fun h=>h.elim .inr fun h=>.inl h.2⟩
 ·rw[if_neg e];exact⟨.inl,fun h=>h.elim id fun h=>absurd h.1 e⟩
theorem jP (S:Nat→List Int)(y:Int):∀n,y∈bf S n↔∃r,r<n∧y∈S r
 |0=>by simp[bf]
 |n+1=>by
  rw[cZ,List.mem_append,jP S y n]
  constructor
  ·rintro(⟨r,h1,h2⟩|h)
   ·exact⟨r,ai,h2⟩
   ·exact⟨n,ai,h⟩
  ·rintro⟨r,h1,h2⟩
   by_cases e:r=n
   ·exact .inr (e▸h2)
   ·exact .inl ⟨r,ai,h2⟩
structure bS (l:List au)(O:Nat→Nat→Int)(t:Nat)(S:Nat→List Int):Prop where
 at_:∀{r:Nat} {b:Int},b∈S r→r=aS l b∧r<l.length∧0≤b∧b<64
 nodup:∀r,(S r).Nodup
 most:∀r,r<l.length→((S r).length:Int)≤O r t
section
variable {l:List au}{O:Nat→Nat→Int}{t:Nat}{S:Nat→List Int}
theorem bS.mem (h:bS l O t S)(b:Int):b∈bf S l.length↔b∈S (aS l b):=by
 rw[jP]
 constructor
 ·rintro⟨r,_,h2⟩;rw[←(h.at_ h2).1];exact h2
 ·exact fun h2=>⟨_,(h.at_ h2).2.1,h2⟩
theorem bS.no (h:bS l O t S){b:Int}(hb:b∉bf S l.length):∀r,b∉S r:=fun r h2=>by
 rw[h.mem b,←(h.at_ h2).1]at hb;exact hb h2
theorem bS.vh (h:bS l O t S):∀n,n≤l.length→(bf S n).Nodup
 |0,_=>by simp[bf]
 |n+1,hn=>by
  rw[cZ,List.nodup_append];refine⟨h.vh n ai,h.nodup n,fun a ha b hb e=>?_⟩;subst e;obtain⟨r,h1,h2⟩:=(jP S a n).1 ha;have e1:=(h.at_ h2).1;have e2:=(h.at_ hb).1;omega
theorem bS.rem (h:bS l O t S)(b:Int):bS l O t (bE S b) where
 at_:=fun hy=>h.at_ ((eI h.nodup b _ _).1 hy).1
 nodup:=fun r=>(h.nodup r).erase b
 most:=fun r hr=>by
  have h1:=h.most r hr;have h2:(bE S b r).length≤(S r).length:=List.length_erase_le;omega
theorem bS.front (h:bS l O t S){b:Int}(h0:0≤b)(h1:b<64)(hr:aS l b<l.length)(hb:∀r,b∉S r)(hl:((S (aS l b)).length:Int)<O (aS l b) t):bS l O t (aG S (aS l b) b) where
 at_:=fun {r y} hy=>by
  rcases(eU S _ b y r).1 hy with hy|⟨rfl,rfl⟩
  ·exact h.at_ hy
  ·exact⟨rfl,hr,h0,h1⟩
 nodup:=fun r=>by
  unfold aG aW
  split
  ·rename_i e
   exact List.nodup_cons.2 ⟨hb _,h.nodup _⟩
  ·exact h.nodup r
 most:=fun r rj=>by
  unfold aG aW
  split
  ·rename_i e
   subst e;simp only[List.length_cons];omega
  ·exact h.most r rj
def cM (l:List au)(O:Nat→Nat→Int)(t:Nat)(S:Nat→List Int)(b:Int):(Nat→List Int)×Int×Bool:=
 if b∈S (aS l b)then(aG (bE S b) (aS l b) b,0,false)
 else if((S (aS l b)).length:Int)<bz l O b t then(aG (bE S b) (aS l b) b,0,false)
 else(aG (bE (bE S (dL l S (aS l b) b)) b) (aS l b) b,dL l S (aS l b) b,true)
theorem vP {b:Int}(h:0<bz l O b t):aS l b<l.length∧bz l O b t=O (aS l b) t:=by
 have h1:=kG h;refine⟨h1,?_⟩;unfold bz;rw[if_pos h1]
theorem Eh {L:List Int}(h:L≠[]):Go.Proofs.YtpcfhbeakecihaaGreat.hd L∈L:=by
 cases L with
 |nil=>exact absurd rfl h
 |cons a L=>exact List.mem_cons_self ..
theorem j9 {r:Nat}{b:Int}(h:S r≠[]):dL l S r b∈S r:=by
 unfold dL
 split
 ·exact Eh h
 ·exact oQ h
theorem oI {b:Int}{r:Nat}(hb:b∈S r):((bE S b r).length:Int)=(S r).length - 1:=by
 have h1:=List.length_pos_of_mem hb;unfold bE;rw[List.length_erase_of_mem hb];omega
theorem bS.use (h:bS l O t S){b:Int}(hb:b∈S (aS l b)):bS l O t (aG (bE S b) (aS l b) b)∧∀y,y∈bf (aG (bE S b) (aS l b) b) l.length↔y∈bf S l.length:=by
 have ha:=h.at_ hb;have hI:bS l O t (aG (bE S b) (aS l b) b):=(h.rem b).front ha.2.2.1 ha.2.2.2 ha.2.1 (fun r hr=>((eI h.nodup b b r).1 hr).2 rfl) (by
  have:=h.most _ ha.2.1;rw[oI hb];omega)
 refine⟨hI,fun y=>?_⟩;rw[hI.mem,h.mem,eU,eI h.nodup]
 constructor
 ·rintro(⟨h1,_⟩|⟨h1,rfl⟩)
  ·exact h1
  ·exact hb
 ·intro h1
  by_cases e:y=b
  ·exact .inr ⟨by rw[e],e⟩
  ·exact .inl ⟨h1,e⟩
theorem bS.su (h:bS l O t S)(b y:Int):y∈bf (bE S b) l.length↔y∈bf S l.length∧y≠b:=by
 rw[(h.rem b).mem,h.mem,eI h.nodup]
theorem gd{P:Prop}(h:P:=by
 constructor
 ·rintro(h2|⟨_,h2⟩)
  ·exact .inr h2
  ·exact .inl h2
 ·rintro(h2|h2)
  ·exact .inr ⟨by rw[h2],h2⟩
  ·exact .inl h2):P:=h
theorem bS.add (h:bS l O t S){b:Int}(h0:0≤b)(h1:b<64)(hp:0<bz l O b t):bS l O t (cM l O t S b).1∧
 (((cM l O t S b).2.2=false∧(cM l O t S b).2.1=0∧∀y,y∈bf (cM l O t S b).1 l.length↔y=b∨y∈bf S l.length)∨
  ((cM l O t S b).2.2=true∧(cM l O t S b).2.1∈bf S l.length∧b∉bf S l.length∧∀y,y∈bf (cM l O t S b).1 l.length↔y=b∨(y∈bf S l.length∧y≠(cM l O t S b).2.1))):=by
 obtain⟨hr,NI⟩:=vP hp;unfold cM
 by_cases hb:b∈S (aS l b)
 ·rw[if_pos hb];obtain⟨hI,hm⟩:=h.use hb;refine⟨hI,.inl ⟨rfl,rfl,fun y=>?_⟩⟩;rw[hm y];exact⟨.inr,fun h2=>h2.elim (fun e=>by rw[e,h.mem];exact hb) id⟩
 ·rw[if_neg hb];have ll:∀r,b∉S r:=h.no (by rw[h.mem];exact hb)
  by_cases hl:((S (aS l b)).length:Int)<bz l O b t
  ·rw[if_pos hl];rw[NI]at hl;rw[qf ll];have hI:=h.front h0 h1 hr ll hl;refine⟨hI,.inl ⟨rfl,rfl,fun y=>?_⟩⟩;rw[hI.mem,h.mem,eU];exact gd
  ·rw[if_neg hl];have hne:S (aS l b)≠[]:=fun e=>by rw[e]at hl;simp at hl;omega
   have hv:=j9 (l:=l) (b:=b) hne;generalize hm:dL l S (aS l b) b=m at *;have DG:∀r,b∉bE S m r:=fun r hr=>ll r ((eI h.nodup m b r).1 hr).1
   rw[qf DG];have hI:=(h.rem m).front h0 h1 hr DG (by
    rw[oI hv];have:=h.most _ hr;omega)
   have NR:=(h.at_ hv).1;refine⟨hI,.inr ⟨rfl,by rw[h.mem,←NR];exact hv,by rw[h.mem];exact hb,fun y=>?_⟩⟩;rw[hI.mem,h.mem,eU,eI h.nodup];exact gd
end
section
open Go.ChangeShapes Go.RowKit Go.WideShapes
def gG.G (j:gG)(n:Nat):Nat→Prop:=fun k=>k=j.p∨k=j.g∨k=j.eb∨k=j.i.pb∨k=j.i.ob∨(0<n∧∃o,j.i.A=some ⟨k,o,none⟩)
structure jg (blocks:Int)(q:Nat→Int)(l:List au)(O:Nat→Nat→Int)(t:Nat)(j:gG)(S:Nat→List Int)(w:World):Prop where
 b:ea w j blocks q l O S
 i:bS l O t S
 t:j.t=t
 h:0<l.length→∀k o,j.i.A=some ⟨k,o,none⟩→k≠j.g∧k≠j.eb
section
variable {w w':World}{j:gG}{blocks:Int}{q:Nat→Int}{l:List au}{O:Nat→Nat→Int}{t:Nat}{S S':Nat→List Int}
theorem cH.off {F:Nat→Prop}{i:ei}(h:cH w i blocks q l O)(ho:af F w w')(h1:¬F i.pb)(h2:¬F i.ob)(h3:0<l.length→∀k o,i.A=some ⟨k,o,none⟩→¬F k):cH w' i blocks q l O:=
 ⟨ho.az h.az h1,h.bI.jB ho fun h0 k hk=>by
  obtain⟨g,o,e,_⟩:=h.bI.at_ 0 h0;rw[e]at hk;have:=aq.1 hk;subst this;exact h3 h0 g o e,ho.az h.prt h2,h.hP,fun h0 k o e=>by obtain⟨cs,hb⟩:=h.ht h0 k o e;exact⟨cs,ho.az hb (h3 h0 k o e)⟩⟩
theorem cH.JT {i:ei}(h:cH w i blocks q l O)(h0:0<l.length):∀k o,i.A=some ⟨k,o,none⟩→k<w.heap.size:=fun k o e=>by
 obtain⟨g,o',e',hg,_⟩:=h.bI.at_ 0 h0;rw[e]at e';injection e' with e';injection e' with e1;subst e1;exact hg
theorem jg.ao {F:Nat→Prop}(h:jg blocks q l O t j S w)(ho:af F w w')(hF:∀k,j.G l.length k→¬F k):jg blocks q l O t j S w':=
 ⟨⟨ho.az h.b.az (hF _ (.inl rfl)),h.b.sp.ao ho (hF _ (.inr (.inl rfl))) (hF _ (.inr (.inr (.inl rfl)))),h.b.pl.off ho (hF _ (.inr (.inr (.inr (.inl rfl))))) (hF _ (.inr (.inr (.inr (.inr (.inl rfl)))))) fun h0 k o e=>hF k (.inr (.inr (.inr (.inr (.inr ⟨h0,o,e⟩))))),h.b.t3⟩,h.i,h.t,h.h⟩
theorem jg.lt (h:jg blocks q l O t j S w):∀k,j.G l.length k→k<w.heap.size:=fun k hk=>by
 rcases hk with rfl|rfl|rfl|rfl|rfl|⟨h0,o,e⟩
 ·exact h.b.az.lt
 ·exact h.b.sp.BN.1
 ·exact h.b.sp.BN.2
 ·exact h.b.pl.az.lt
 ·exact h.b.pl.prt.lt
 ·exact h.b.pl.JT h0 k o e
theorem jg.p6 (h:jg blocks q l O t j S w)(hs:cU w' j.g j.eb (l.length+1) S')(ho:af (iu j.g j.eb) w w')(hi:bS l O t S'):jg blocks q l O t j S' w':=by
 obtain⟨N,E,hm,_⟩:=h.b.sp;have n1:¬iu j.g j.eb j.p:=fun e=>e.elim (h.b.az.off hm.1 av) (h.b.az.off hm.2 av)
 have n2:¬iu j.g j.eb j.i.pb:=fun e=>e.elim (h.b.pl.az.off hm.1 av) (h.b.pl.az.off hm.2 av)
 have n3:¬iu j.g j.eb j.i.ob:=fun e=>e.elim (h.b.pl.prt.off hm.1 av) (h.b.pl.prt.off hm.2 av)
 exact⟨⟨ho.az h.b.az n1,hs,h.b.pl.off ho n2 n3 fun h0 k o e e2=>e2.elim (h.h h0 k o e).1 (h.h h0 k o e).2,h.b.t3⟩,hi,h.t,h.h⟩
theorem og {n:Nat}:∀k,iu j.g j.eb k→j.G n k:=fun k hk=>hk.elim (fun e=>.inr (.inl e)) fun e=>.inr (.inr (.inl e))
end
def zp (l:List au)(O:Nat→Nat→Int)(t:Nat):oz (Nat→List Int):=
 ⟨fun S=>bf S l.length,fun S b=>aG (bE S b) (aS l b) b,cM l O t,fun S b=>bE S b,fun _=>0,fun b=>0<bz l O b t⟩
def ky:C9:=⟨181,184,179,183,180,182⟩
theorem gQ (p : Nat) : ee 149 (aI p) "Has" ky.has ∧ ee 149 (aI p) "Use" ky.use ∧ ee 149 (aI p) "Add" ky.add ∧
 ee 149 (aI p) "Remove" ky.rem ∧ ee 149 (aI p) "All" ky.all :=
 ⟨⟨fun w=>by kernel_rfl,fun a w=>by kernel_rfl⟩,⟨fun w=>by kernel_rfl,fun a w=>by kernel_rfl⟩,⟨fun w=>by kernel_rfl,fun a w=>by kernel_rfl⟩,
  ⟨fun w=>by kernel_rfl,fun a w=>by kernel_rfl⟩,⟨fun w=>by kernel_rfl,fun a w=>by kernel_rfl⟩⟩
section
variable {blocks:Int}{q:Nat→Int}{l:List au}{O:Nat→Nat→Int}{t:Nat}
theorem xS (j:gG):xz (zp l O t) 149 (aI j.p) ky (j.G l.length) (jg blocks q l O t j) where
 uB:=(gQ j.p).1
 uz:=(gQ j.p).2.1
 uD:=(gQ j.p).2.2.1
 uA:=(gQ j.p).2.2.2.1
 uC:=(gQ j.p).2.2.2.2
 ptr:=⟨j.p,rfl,.inl rfl⟩
 ao:=fun h ho hF=>h.ao ho hF
 lt:=fun h k hk=>h.lt k hk
 has:=fun {s w} b h=>by
  show Calls Tryz.prog 181 _ w fun e w'=>e= .returned (.bool (decide (b∈bf s l.length)))∧af aA w w'
  by_cases hb:b∈bf s l.length
  ·rw[decide_eq_true hb];rw[h.i.mem]at hb;exact(iR w h.b hb).mono fun e w' ⟨h1,h2⟩=>⟨h1,h2▸af.ak _ _⟩
  ·rw[decide_eq_false hb];exact(kS w h.b (h.i.no hb)).mono fun e w' ⟨h1,h2⟩=>⟨h1,h2▸af.ak _ _⟩
 all:=fun h=>xU _ h.b
 use:=fun {s w b} h hb _=>by
  have hb:b∈bf s l.length:=hb;rw[h.i.mem]at hb;have ha:=h.i.at_ hb;obtain⟨n,rfl⟩:=Int.eq_ofNat_of_zero_le ha.2.2.1;exact(kR w h.b ai ai hb).mono fun e w' ⟨h1,h2,h3⟩=>⟨h1,h.p6 h2 h3 (h.i.use hb).1,h3.mono fun k hk=>.inl (og k hk)⟩
 add:=fun {s w b} h h0 h1 ht _=>by
  obtain⟨n,rfl⟩:=Int.eq_ofNat_of_zero_le h0;have ht:0<bz l O n t:=ht;have hA:=(h.i.add ai h1 ht).1;have GN:0<bz l O n j.t:=by rw[h.t];exact ht
  show Calls Tryz.prog 179 _ w fun e w'=>e= .returned (.tuple #[ah (cM l O t s n).2.1,.bool (cM l O t s n).2.2,ah 0])∧jg blocks q l O t j (cM l O t s n).1 w'∧af (j.G l.length) w w'
  unfold cM at hA ⊢
  by_cases hb:(n:Int)∈s (aS l n)
  ·rw[if_pos hb]at hA ⊢;exact(qx w h.b (by have:=(h.i.at_ hb).2.1;omega) ai hb GN).mono fun e w' ⟨h1,h2,h3⟩=>⟨h1,h.p6 h2 h3 hA,h3.mono fun k hk=>.inl (og k hk)⟩
  ·rw[if_neg hb]at hA ⊢;have ll:∀r,(n:Int)∉s r:=h.i.no (by rw[h.i.mem];exact hb)
   by_cases hl:((s (aS l n)).length:Int)<bz l O n t
   ·rw[if_pos hl]at hA ⊢;exact(nE w h.b ai ll GN (by rw[h.t];exact hl)).mono fun e w' ⟨h1,h2,h3⟩=>⟨h1,h.p6 h2 h3 hA,h3.mono fun k hk=>.inl (og k hk)⟩
   ·rw[if_neg hl]at hA ⊢;have hne:s (aS l n)≠[]:=fun e=>by rw[e]at hl;simp at hl;omega
    have hv:=j9 (l:=l) (b:=(n:Int)) hne;obtain⟨m,hm⟩:=Int.eq_ofNat_of_zero_le (h.i.at_ hv).2.2.1;have CP:dL l s (aS l n) n=(m:Int):=hm;rw[CP]at hA hv ⊢;exact(nF w h.b ai ll GN (by rw[h.t];omega) CP hv).mono fun e w' ⟨h1,h2,h3⟩=>⟨h1,h.p6 h2 h3 hA,h3.mono fun k hk=>.inl (og k hk)⟩
 rem:=fun {s w b} h hb=>by
  have hb:b∈bf s l.length:=hb;rw[h.i.mem]at hb;have ha:=h.i.at_ hb;obtain⟨n,rfl⟩:=Int.eq_ofNat_of_zero_le ha.2.2.1;exact(qw w h.b hb).mono fun e w' ⟨h1,h2,h3⟩=>⟨h1,h.p6 h2 h3 (h.i.rem _),h3.mono fun k hk=>.inl (og k hk)⟩
 gr:=fun {s w b} h hb=>by
  have hb:b∈bf s l.length:=hb;rw[h.i.mem]at hb;exact(h.i.at_ hb).2.2
 nodup:=fun h=>h.i.vh _ (dT _)
 xx:=fun h h0 h1 ht=>(h.i.add h0 h1 ht).2
 xn:=fun {s w b} h hb=>by
  have hb:b∈bf s l.length:=hb;rw[h.i.mem]at hb;exact(h.i.use hb).2
 su:=fun {s w b} h hb y=>h.i.su b y
 AQ:=fun _ _=>Nat.le_succ _
 AU:=fun _ _=>Nat.le_succ _
 AR:=fun _ _=>Nat.le_refl _
theorem l8:∀n,bf (fun _=>[]) n= []
 |0=>rfl
 |n+1=>by rw[cZ,l8 n];rfl
def D9 (blocks:Int)(q:Nat→Int)(l:List au)(O:Nat→Nat→Int)(t:Nat):aZ:=
 ⟨Nat→List Int,gG,zp l O t,149,ky,fun j=>aI j.p,fun j=>j.G l.length,fun j=>jg blocks q l O t j,fun _=>[],fun j=>xS j,l8 _⟩
end
def eG (c:aN):Nat→Int:=fun t=>c.f (9+t)
def iK (c:aN)(k:Nat):aZ:=D9 (c.f 2) (eG c) c.h (gw c.h (eG c)) k
theorem jv (i:Nat)(s:lx)(t r x:Nat):(bW i s t).o r x=if r=i∧x=t then min s.left (s.c t)else s.o r x:=rfl
def eN (o:Nat→Nat→Int)(x:Nat):Nat→Int
 |0=>0
 |n+1=>eN o x n+o n x
theorem oX (o:Nat→Nat→Int)(x i:Nat)(v:Int)(hz:o i x=0):∀n,eN (fun r y=>if r=i∧y=x then v else o r y) x n=eN o x n+if i<n then v else 0
 |0=>by simp[eN]
 |n+1=>by
  unfold eN;rw[oX o x i v hz n]
  by_cases e:n=i
  ·subst e;have h1:(if n=n∧x=x then v else o n x)=v:=if_pos ⟨rfl,rfl⟩;have h2:(if n<n then v else 0)=0:=if_neg ai;have h3:(if n<n+1 then v else 0)=v:=if_pos ai;rw[h1,h2,h3];omega
  ·have h1:(if n=i∧x=x then v else o n x)=o n x:=if_neg (fun h=>e h.1);rw[h1]
   by_cases h2:i<n
   ·rw[if_pos h2,if_pos ai];omega
   ·rw[if_neg h2,if_neg ai];omega
theorem iY (o o':Nat→Nat→Int)(x:Nat)(h:∀r,o r x=o' r x):∀n,eN o x n=eN o' x n
 |0=>rfl
 |n+1=>by unfold eN;rw[iY o o' x h n,h n]
structure Ci (q:Nat→Int)(n:Nat)(D:Nat→Prop)(s:lx):Prop where
 o0:∀r x,0≤s.o r x
 c0:∀x,x<3→0≤s.c x
 sum:∀x,x<3→eN s.o x n+s.c x=q x
 no:∀r x,¬D r→s.o r x=0
theorem mH {q:Nat→Int}{n:Nat}{D:Nat→Prop}{l:List au}{s:lx}{i:Nat}(h:Ci q n D s)(hi:¬D i)(bI:i<n)(hl:0≤(l.getD i default).size):
 ∀k,k≤3→0≤(cd l s i k).left∧Ci q n (fun r=>D r∨r=i) (cd l s i k)∧∀x,k≤x→(cd l s i k).o i x=0
 |0,_=>⟨hl,⟨h.o0,h.c0,h.sum,fun r x hr=>h.no r x fun e=>hr (.inl e)⟩,fun x _=>h.no i x hi⟩
 |k+1,hk=>by
  obtain⟨h1,h2,h3⟩:=mH h hi bI hl k ai;rw[ja];generalize cd l s i k=m at *;have hc:=h2.c0 k ai;refine⟨by unfold bW;dsimp only;omega,⟨fun r x=>?_,fun x hx=>?_,fun x hx=>?_,fun r x hr=>?_⟩,fun x hx=>?_⟩
  ·rw[jv];split
   ·omega
   ·exact h2.o0 r x
  ·unfold bW;dsimp only;split
   ·omega
   ·exact h2.c0 x hx
  ·have hs:=h2.sum x hx
   by_cases e:x=k
   ·subst e;have e1:eN (bW i m x).o x n=eN m.o x n+min m.left (m.c x):=by
     have:=oX m.o x i (min m.left (m.c x)) (h3 x (dT _)) n;rw[if_pos bI]at this;exact this
    rw[e1];unfold bW;dsimp only;rw[if_pos rfl];omega
   ·rw[iY (bW i m k).o m.o x (fun r=>by rw[jv,if_neg (fun h=>e h.2)])];unfold bW;dsimp only;rw[if_neg e];exact hs
  ·rw[jv,if_neg (fun e=>hr (.inr e.1))];exact h2.no r x hr
  ·rw[jv,if_neg (fun e=>by omega)];exact h3 x ai
theorem pK {q:Nat→Int}{n:Nat}{D:Nat→Prop}{l:List au}{s:lx}{i:Nat}(h:Ci q n D s)(hi:¬D i)(bI:i<n)(hl:0≤(l.getD i default).size):Ci q n (fun r=>D r∨r=i) (ic l s i):=by
 obtain⟨h1,h2,h3⟩:=mH (l:=l) h hi bI hl 3 (dT _);rw[eX];generalize cd l s i 3=m at *;refine⟨fun r x=>?_,h2.c0,fun x hx=>?_,fun r x hr=>?_⟩
 ·dsimp only;split
  ·exact h1
  ·exact h2.o0 r x
 ·have:=h2.sum x hx;rw[iY _ m.o x (fun r=>by dsimp only;rw[if_neg (fun h=>by omega)])];exact this
 ·dsimp only;rw[if_neg (fun e=>hr (.inr e.1))];exact h2.no r x hr
theorem kV {q:Nat→Int}{n:Nat}{l:List au}(hl:∀i,i<n→0≤(l.getD i default).size):∀(ord:List Nat) {D:Nat→Prop} {s:lx},Ci q n D s→ord.Nodup→(∀x∈ord,¬D x∧x<n)→∃D',Ci q n D' (ord.foldl (ic l) s)
 | [],D,s,h,_,_=>⟨D,h⟩
 |i :: ord,D,s,h,hn,ho=>by
  have h1:=ho i (List.mem_cons_self ..);rw[List.nodup_cons]at hn;refine kV hl ord (pK h h1.1 h1.2 (hl i h1.2)) hn.2 fun x hx=>⟨fun e=>e.elim (ho x (List.mem_cons_of_mem _ hx)).1 fun e=>hn.1 (e▸hx),(ho x (List.mem_cons_of_mem _ hx)).2⟩
theorem mv (x:Nat):∀n,eN (fun _ _=>0) x n=0
 |0=>rfl
 |n+1=>by unfold eN;rw[mv x n];rfl
theorem yM {blocks:Int}{l:List au}(hP:cW blocks l){q:Nat→Int}(hq:∀x,x<3→0≤q x)(hn:(bg (bk l)).Nodup):(∀r x,0≤gw l q r x)∧∀x,x<3→eN (gw l q) x l.length≤q x:=by
 obtain⟨D,h⟩:=kV (q:=q) (n:=l.length) (l:=l) (fun i hi=>by have:=hP.1 i hi;unfold pU at this;omega) (bg (bk l)) (D:=fun _=>False) (s:=⟨q,fun _ _=>0,0⟩)
  ⟨fun _ _=>Int.le_refl _,hq,fun x hx=>by show eN (fun _ _=>0) x l.length+q x=q x;rw[mv];omega,fun _ _ _=>rfl⟩ hn fun x hx=>⟨id,by have:=jS (bk l) x hx;rwa [br]at this⟩
 exact⟨h.o0,fun x hx=>by have h1:=h.sum x hx;have h2:=h.c0 x hx;unfold gw rF;omega⟩
section
theorem vM {l:List au}{O:Nat→Nat→Int}{t:Nat}(h:∀r,r<l.length→0≤O r t):bS l O t (fun _=>[]):=
 ⟨fun h=>(by cases h),fun _=>List.nodup_nil,fun r hr=>(by have:=h r hr;simpa using this)⟩
theorem s7 {c:aN}{k:Nat}(hP:dJ c)(hk:k<3)(hp:c.f 5=2)(hO:∀r,r<c.h.length→0≤gw c.h (eG c) r k):(iK c k).Made c (k+1):=by
 intro w A n cp bI;have HN:=ae<|fun w (h:aL w A n cp c.h)=>tu (q:=eG c) w h hP.hs hP.p2 fun t ht=>hP.pc t ht;have L9:=ae<|fun w i (h:cH w i (c.f 2) (eG c) c.h (gw c.h (eG c)))=>xT (t:=k) w h hk;have HC:=ae<|fun(W:World) (bb:Nat) (hb:Box W bb 25 (aj c (.slice A n cp))) (i:Nat) (hi:i<16)=>hb.ag (aB c (.slice A n cp) hi);have HH:=ae<|fun(W:World) (bb:Nat) (hb:Box W bb 25 (aj c (.slice A n cp)))=>hb.ag (eu c (.slice A n cp));have tY:=ae bI;have Pp:=ae hO;have hw:IntKind.i64.wrap (((k+1:Nat):Int) - 1)=k:=by rw[IntKind.wrap_i64];omega
 have wH:(k:Int)<3:=ai;have Dj:=ae hp
 show Calls Tryz.prog 53 #[.agg (aj c (.slice A n cp)),ah ((k+1:Nat):Int)] w (uK (iK c k) w)
 clear bI hO hp
 go_enter Tryz.func53,Tryz.ntmps53
 go_upto_region 1 with fail;have HB:=ae<|Box.fresh w 25 (aj c (.slice A n cp));have HO:=ae<|(af.ak aA w).alloc (.cells (aj c (.slice A n cp)) 25);change Code.wp _ _ _ _ (w.alloc (.cells (aj c (.slice A n cp)) 25));generalize w.alloc (.cells (aj c (.slice A n cp)) 25)=W1 at *;generalize w.heap.size=bb at *;have c5:=HC.out W1 bb HB 5 av;rw[Dj.out]at c5;have c2:=HC.out W1 bb HB 2 av;have ck:=HC.out W1 bb HB (9+k) ai;have c9:=HC.out W1 bb HB 9 av;have OL:=HC.out W1 bb HB 10 av;have OK:=HC.out W1 bb HB 11 av;have B2:=HH.out W1 bb HB;have Ca:Hid (Calls Tryz.prog 81 #[.slice A n cp,ah (c.f 2),.agg #[ah (c.f 9),ah (c.f 10),ah (c.f 11)]] W1 (DU (c.f 2) (eG c) c.h W1)):=ae<|HN W1 (tY.keep HO);clear HC HH HN Dj;go_upto_region 4 with(go_at_call 81;refine Ca.mono ?_;rintro e W2 ⟨i,rfl,h1,h2,h3⟩;have H1:=ae h1;have H2:=ae h2;have H3:=ae h3;clear h1 h2 h3);clear c5 c2 ck c9 OL OK B2 Ca;have Ju:=ae<|L9 W2 i H1;clear L9;go_wp2_with (go_at_call 82;refine Ju.mono ?_;rintro e W3 ⟨p,g,eb,rfl,h1,h2,h3,h4,h5⟩;have G1:=ae h1;have G2:=ae h2;have G3:=ae h3;have G4:=ae h4;have G5:=ae h5;clear h1 h2 h3 h4 h5);go_ret;have CL:=HO.size;have pO:=H3.size;refine⟨⟨p,g,eb,i,k⟩,rfl,⟨G1.out,vM Pp,rfl,fun h0 kk o e=>?_⟩,fun j hj=>?_,(HO.trans H3).trans G5.out⟩
 ·have h1:=H1.JT h0 kk o e;have h2:=G3.out;have h3:=G4.out
  show kk≠g∧kk≠eb
  omega
 ·have h2:=G2.out;have h3:=G3.out;have h4:=G4.out;rcases hj with rfl|rfl|rfl|rfl|rfl|⟨h0,o,e⟩
  ·omega
  ·omega
  ·omega
  ·have:=H2.out i.pb (.inl rfl);show w.heap.size≤i.pb;omega
  ·have:=H2.out i.ob (.inr (.inl rfl));show w.heap.size≤i.ob;omega
  ·have:=H2.out j (.inr (.inr ⟨o,e⟩));omega
end
end
end Go.Proofs.YtpcfhbeakecihaaGreat

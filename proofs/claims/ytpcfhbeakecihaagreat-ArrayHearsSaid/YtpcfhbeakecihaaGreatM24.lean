/- Lemmas. -/
import Derived.Test.YtpcfhbeakecihaaGreatM21
import Derived.Test.YtpcfhbeakecihaaGreatM23
set_option linter.all false
set_option maxHeartbeats 20000000
set_option maxRecDepth 100000
namespace Go.Proofs.YtpcfhbeakecihaaGreat
section
open Go.ChangeShapes Go.RowKit Go.WideShapes
def mo (blocks:Int)(q:Nat→Int)(h p:Value):Array Value:=#[ah blocks,ah (q 0),ah (q 1),ah (q 2),h,p]
theorem El (blocks:Int)(q:Nat→Int)(h p:Value){j:Nat}{v:Value}(hj:(eM q).toList[j]? =some v):(mo blocks q h p)[1+j]? =some v:=by
 have h3:j<3:=(List.getElem?_eq_some_iff.1 hj).1;rcases(show j=0∨j=1∨j=2 by omega)with rfl|rfl|rfl<;>exact hj
theorem EO (blocks:Int)(q:Nat→Int):Tryz.prog.built 191 [(0,ah blocks),(1,.agg (eM q))]=some (mo blocks q aT aT):=by kernel_rfl
def Qt (pb:Nat)(blocks:Int)(q:Nat→Int)(l:List aH)(w w':World):Prop:=
 ∃i:kT,i.pb=pb∧gW w' i blocks q l (fJ l q)∧(∀k,i.F k→k=pb∨w.heap.size≤k)∧af (az pb) w w'
section
theorem gE{P:Prop}(h:P:=by
 first|exact⟨⟨_,HX5⟩,((bI.trans KI).mono fun _ hk=>hk.elim).trans ek⟩|exact⟨⟨_,HX4⟩,(bI.trans KI).mono fun _ hk=>hk.elim⟩|exact⟨⟨_,Vf⟩,bI.mono fun _ hk=>hk.elim⟩|exact⟨⟨_,AA.drew⟩,bu.drew.mono fun _ hk=>hk.elim⟩):P:=h
theorem L7 {pb:Nat}{blocks:Int}{q:Nat→Int}{l:List aH}{A:Option Addr}{n c:Nat}{h0 p0:Value}(w:World)(hx:Box w pb 191 (mo blocks q h0 p0))(bL:aX w A n c l)(hP:cT blocks l)
 (hb:1≤blocks∧blocks≤32) (hq:∀t,t<3→0≤q t∧q t≤16):
 Calls Tryz.prog 111 #[aO pb,.slice A n c] w fun e w'=>e= .returned (ah 0)∧Qt pb blocks q l w w':=by
 have HX:=ae hx;have rC:=ae bL;have HP:=ae hP;have HQ:=ae hq;have HL:=ae (show l.length≤100 by have:=hP.2.2;omega);have HC:=yn A n c l blocks w bL hb.1 hb.2;rw[wz hP]at HC;have HC:=ae HC;have x0:aF w pb 0 blocks:=hx.ag rfl;have cD:=ae hx.lt;clear hx bL hP hb hq
 go_enter Tryz.func111,Tryz.ntmps111
 go_upto_region 5 with(go_at_call 80;refine HC.mono ?_;rintro e W2 ⟨rfl,bq⟩);have AA:=ae<|bq.ak HX id;have bu:=ae bq;clear bq x0 HC;refine gg (fun w':World=>(∃h,Box w' pb 191 (mo blocks q h p0))∧af (az pb) w w') 13 ?_ ?_
 ·exact gE
 intro aC;refine bE [0,1,2,4,5,6,7] ?_;refine aB (i:=8) (v:=.agg (eM q)) aS rfl aS (fun _ _ _ h=>h) (yieldsIf_load_mid (by rfl) 22 _ rfl pb 1 rfl (eM q).toList _ (fun w hw j v hj=>hw.1.elim fun h hb=>hb.ag (El blocks q h p0 hj)) Tryz.underlying22 rfl aS) (by assumption) ?_;refine dU ?_;refine cX 3 fun K hK=>?_
 go_simp;refine(s5 W2.drew (rC.keep (bu.drew)) HL).mono ?_;rintro e W3 ⟨B,q9,rfl,UU,bV,xN,XT⟩;have Vf:=ae<|bV.ak AA.drew id;have Vw:=ae UU;have mf:=ae xN;have Sm:=ae XT;have bI:=ae<|bu.drew.trans bV;clear UU xN bV XT;refine dy hK ?_ fun aC=>?_
 ·exact gE
 clear hK;refine cX 9 fun K hK=>?_
 go_simp;refine(Ah W3 (rC.keep bI) HP HQ).mono ?_;rintro e W4 ⟨ob,rfl,U5,QN,ey⟩;have HX4:=ae<|ey.ak Vf id;have sc:=ae U5;have Di:=ae QN;have KI:=ae ey;clear U5 QN ey;refine dy hK ?_ fun aC=>?_
 ·exact gE
 clear hK;refine bE [10,11] ?_;refine cX 12 fun K hK=>?_
 have UW:=HX4.free 4;have De:aM W4 pb 4 h0:=HX4.ag rfl;go_simp;have HX5:=aq (Box (W4.setCell ⟨pb,4,none⟩ (.slice B l.length q9)) pb 191 (mo blocks q (.slice B l.length q9) p0)) (HX4.store 4 _);have ek:=ae<|(af.ai (az pb) W4).setCell (p:=⟨pb,4,none⟩) (.inl (show az pb pb from rfl)) (.slice B l.length q9);refine dy hK ?_ fun aC=>?_
 ·exact gE
 clear hK;refine dE ?_;clear aC;have WA:=HX5.free 5;have hc5:aM (W4.setCell ⟨pb,4,none⟩ (.slice B l.length q9)) pb 5 p0:=HX5.ag rfl;generalize W4.setCell ⟨pb,4,none⟩ (.slice B l.length q9)=W5 at *;go_wp2;go_ret;have aY:=cD.out;have Gd:=bI.size;have U3:=HX5.store 5 (bp ob l.length l.length);have qu:af (az pb) W4 (W5.setCell ⟨pb,5,none⟩ (bp ob l.length l.length)):=
  ek.setCell (p:=⟨pb,5,none⟩) (.inl (show az pb pb from rfl)) _
 refine⟨rfl,⟨pb,ob,B,q9⟩,rfl,⟨U3,(Vw.keep KI).q7 qu fun h0 k hk e=>?_,qu.ak sc fun e=>?_,HP,fun h0 k o e=>?_⟩,fun k hk=>?_,((bI.trans KI).mono fun _ hk=>hk.elim).trans qu⟩
 ·have h1:=mf.out k hk;have h2:k=pb:=e;have h3:=bu.size;have:W2.drew.heap.size=W2.heap.size:=rfl;omega
 ·have h1:=Di.out;have h2:ob=pb:=e;omega
 ·have e:B=some ⟨k,o,none⟩:=e;have hk:aJ (.slice B l.length q9) k:=by rw[e];exact aD.2 rfl
  obtain⟨cs,hb⟩:=Sm.out k hk;have h1:=mf.out k hk;have h3:=bu.size;have:W2.drew.heap.size=W2.heap.size:=rfl;exact⟨cs,qu.ak (KI.ak hb id) fun e2=>by
   have h2:k=pb:=e2;omega⟩
 ·have h3:=bu.size;have:W2.drew.heap.size=W2.heap.size:=rfl;rcases hk with e|e|⟨o,e⟩
  ·exact .inl e
  ·have h1:=Di.out;have e:k=ob:=e;exact .inr aj
  ·have e:B=some ⟨k,o,none⟩:=e;have h1:=mf.out k fg;exact .inr aj
def Zs (w W:World)(t:Value)(wr:World):Prop:=∃k:Nat,k≤3∧t=ah k∧∃m,w.drewN m=wr
def Yl (blocks:Int)(q:Nat→Int)(l:List aH)(w:World)(e:Ending)(w':World):Prop:=
 ∃i:kT,e= .returned (.tuple #[aO i.pb,ah 0])∧gW w' i blocks q l (fJ l q)∧(∀k,i.F k→w.heap.size≤k)∧af au w w'
theorem IK {blocks:Int}{q:Nat→Int}{l:List aH}{A:Option Addr}{n c:Nat}(w:World)(bL:aX w A n c l)(hP:cT blocks l)
 (hb:1≤blocks∧blocks≤32) (hq:∀t,t<3→1≤q t∧q t≤16):
 Calls Tryz.prog 81 #[.slice A n c,ah blocks,.agg (eM q)] w (Yl blocks q l w):=by
 have rC:=ae bL;have HP:=ae hP;have sg:=ae hb;have HQ:=ae hq;have ei:¬blocks<1:=aj;have ez:¬32<blocks:=aj;have HB:=ae<|Box.fresh w 22 (eM q);have HO:=ae<|(af.ai au w).alloc (.cells (eM q) 22);clear bL hP hq hb
 go_enter Tryz.func81,Tryz.ntmps81
 go_upto_region 1 with fail;change Code.wp _ _ _ _ (w.alloc (.cells (eM q) 22));generalize w.alloc (.cells (eM q) 22)=W at *;obtain⟨cb,jV⟩:∃cb,cb=w.heap.size:=⟨_,rfl⟩;rw[←jV]at HB ⊢;clear jV;go_upto_region 2 with(refine iy (eM q) HB Tryz.underlying22 ?_)
 go_loopw [13] (fun t wr=>Zs W W t wr) (fun t _=>3 - (intOf t).toNat)
 case atStart=>exact⟨0,aj,rfl,0,rfl⟩
 case round=>
  obtain⟨k,hk,rfl,m,rfl⟩:=hrel
  by_cases aY:k<3
  ·have hq:=HQ.out k aY;have UN:¬q k<1:=aj;have hq2:¬16<q k:=aj;have xC:(k:Int)<3:=aj;have hix:=rp (P:=Tryz.prog) (W.drewN m) 22 3 3 (eM q) .i64 k (ah (q k)) Tryz.underlying22 aS aS aj xC (by simpa using F5 q aY);generalize q k=qk at *;have cD:=ae aY;clear hq aY hk;go_wp2_with fail
   go_roundw
   case rel=>exact⟨k+1,cD,by go_num,m,rfl⟩
   case measure=>simp[intOf];have:=cD.out;omega
  ·obtain rfl:k=3:=aj;clear aY hk;have dG:=ae<|HB.drewN m;have bu:=ae<|HO.drewN m;generalize W.drewN m=W2 at *;go_upto_region 10 with(first|(refine iy (eM q) dG Tryz.underlying22 ?_)|(refine du rfl _ _ rfl [(0,ah blocks),(1,.agg (eM q))] _ (by simp[Act.eval,Act.put]) (EO blocks q) ?_));have hG:=ae<|Box.fresh W2 191 (mo blocks q aT aT);have bI:=ae<|bu.alloc (.cells (mo blocks q aT aT) 191);change Code.wp _ _ _ _ (W2.alloc (.cells (mo blocks q aT aT) 191));generalize W2.alloc (.cells (mo blocks q aT aT) 191)=W3 at *;obtain⟨pb,E5⟩:∃pb,pb=W2.heap.size:=⟨_,rfl⟩;have NU:=ae (show w.heap.size≤pb by rw[E5];exact bu.size);rw[←E5]at hG ⊢;clear E5;have HS:=ae (L7 W3 hG (rC.keep bI) HP sg fun t ht=>by have:=HQ.out t ht;omega);go_wp2_with (go_at_call 111;refine HS.mono ?_;rintro e W4 ⟨rfl,i,rfl,h1,h2,h3⟩;have H1:=ae h1;have H2:=ae h2;have H3:=ae h3;clear h1 h2 h3);go_ret2;have hs:=bI.size;have hp:=NU.out;exact⟨i,rfl,H1,fun k hk=>(H2 k hk).elim (fun e=>by omega) fun e=>by omega,bI.aG H3 fun k hk=>.inr (by rw[show k=i.pb from hk];exact hp)⟩
end
end
theorem lU {S:Nat→List Int}(hn:∀r,(S r).Nodup)(b y:Int)(r:Nat):y∈cu S b r↔y∈S r∧y≠b:=by
 unfold cu;rw[(hn r).mem_erase_iff];exact And.comm
theorem mD (S:Nat→List Int)(i:Nat)(b y:Int)(r:Nat):y∈bm S i b r↔y∈S r∨(r=i∧y=b):=by
 unfold bm ba
 by_cases e:r=i
 ·subst e;rw[if_pos rfl,List.mem_cons];exact⟨fun h=>h.elim (fun e=>.inr ⟨rfl,e⟩) .inl,fun h=>h.elim .inr fun h=>.inl h.2⟩
 ·rw[if_neg e];exact⟨.inl,fun h=>h.elim id fun h=>absurd h.1 e⟩
theorem qH (S:Nat→List Int)(y:Int):∀n,y∈b9 S n↔∃r,r<n∧y∈S r
 |0=>by simp[b9]
 |n+1=>by
  rw[fD,List.mem_append,qH S y n]
  constructor
  ·rintro(⟨r,h1,h2⟩|h)
   ·exact⟨r,aj,h2⟩
   ·exact⟨n,aj,h⟩
  ·rintro⟨r,h1,h2⟩
   by_cases e:r=n
   ·exact .inr (e▸h2)
   ·exact .inl ⟨r,aj,h2⟩
structure cz (l:List aH)(O:Nat→Nat→Int)(t:Nat)(S:Nat→List Int):Prop where
 at_:∀{r:Nat} {b:Int},b∈S r→r=aZ l b∧r<l.length∧0≤b∧b<64
 nodup:∀r,(S r).Nodup
 most:∀r,r<l.length→((S r).length:Int)≤O r t
section
variable {l:List aH}{O:Nat→Nat→Int}{t:Nat}{S:Nat→List Int}
theorem cz.mem (h:cz l O t S)(b:Int):b∈b9 S l.length↔b∈S (aZ l b):=by
 rw[qH]
 constructor
 ·rintro⟨r,_,h2⟩;rw[←(h.at_ h2).1];exact h2
 ·exact fun h2=>⟨_,(h.at_ h2).2.1,h2⟩
theorem cz.no (h:cz l O t S){b:Int}(hb:b∉b9 S l.length):∀r,b∉S r:=fun r h2=>by
 rw[h.mem b,←(h.at_ h2).1]at hb;exact hb h2
theorem cz.DQ (h:cz l O t S):∀n,n≤l.length→(b9 S n).Nodup
 |0,_=>by simp[b9]
 |n+1,hn=>by
  rw[fD,List.nodup_append];refine⟨h.DQ n aj,h.nodup n,fun a ha b hb e=>?_⟩;subst e;obtain⟨r,h1,h2⟩:=(qH S a n).1 ha;have e1:=(h.at_ h2).1;have e2:=(h.at_ hb).1;omega
theorem cz.rem (h:cz l O t S)(b:Int):cz l O t (cu S b) where
 at_:=fun hy=>h.at_ ((lU h.nodup b _ _).1 hy).1
 nodup:=fun r=>(h.nodup r).erase b
 most:=fun r hr=>by
  have h1:=h.most r hr;have h2:(cu S b r).length≤(S r).length:=List.length_erase_le;omega
theorem cz.front (h:cz l O t S){b:Int}(h0:0≤b)(h1:b<64)(hr:aZ l b<l.length)(hb:∀r,b∉S r)(hl:((S (aZ l b)).length:Int)<O (aZ l b) t):cz l O t (bm S (aZ l b) b) where
 at_:=fun {r y} hy=>by
  rcases(mD S _ b y r).1 hy with hy|⟨rfl,rfl⟩
  ·exact h.at_ hy
  ·exact⟨rfl,hr,h0,h1⟩
 nodup:=fun r=>by
  unfold bm ba
  split
  ·rename_i e
   exact List.nodup_cons.2 ⟨hb _,h.nodup _⟩
  ·exact h.nodup r
 most:=fun r kJ=>by
  unfold bm ba
  split
  ·rename_i e
   subst e;simp only[List.length_cons];omega
  ·exact h.most r kJ
def cF (l:List aH)(O:Nat→Nat→Int)(t:Nat)(S:Nat→List Int)(b:Int):(Nat→List Int)×Int×Bool:=
 if b∈S (aZ l b)then(bm (cu S b) (aZ l b) b,0,false)
 else if((S (aZ l b)).length:Int)<bK l O b t then(bm (cu S b) (aZ l b) b,0,false)
 else(bm (cu (cu S (fq l S (aZ l b) b)) b) (aZ l b) b,fq l S (aZ l b) b,true)
theorem vL {b:Int}(h:0<bK l O b t):aZ l b<l.length∧bK l O b t=O (aZ l b) t:=by
 have h1:=vM h;refine⟨h1,?_⟩;unfold bK;rw[if_pos h1]
theorem Za {L:List Int}(h:L≠[]):Go.Proofs.YtpcfhbeakecihaaGreat.hd L∈L:=by
 cases L with
 |nil=>exact absurd rfl h
 |cons a L=>exact List.mem_cons_self ..
theorem ql {r:Nat}{b:Int}(h:S r≠[]):fq l S r b∈S r:=by
 unfold fq
 split
 ·exact Za h
 ·exact B7 h
theorem BW {b:Int}{r:Nat}(hb:b∈S r):((cu S b r).length:Int)=(S r).length - 1:=by
 have h1:=List.length_pos_of_mem hb;unfold cu;rw[List.length_erase_of_mem hb];omega
theorem cz.use (h:cz l O t S){b:Int}(hb:b∈S (aZ l b)):cz l O t (bm (cu S b) (aZ l b) b)∧∀y,y∈b9 (bm (cu S b) (aZ l b) b) l.length↔y∈b9 S l.length:=by
 have ha:=h.at_ hb;have hI:cz l O t (bm (cu S b) (aZ l b) b):=(h.rem b).front ha.2.2.1 ha.2.2.2 ha.2.1 (fun r hr=>((lU h.nodup b b r).1 hr).2 rfl) (by
  have:=h.most _ ha.2.1;rw[BW hb];omega)
 refine⟨hI,fun y=>?_⟩;rw[hI.mem,h.mem,mD,lU h.nodup]
 constructor
 ·rintro(⟨h1,_⟩|⟨h1,rfl⟩)
  ·exact h1
  ·exact hb
 ·intro h1
  by_cases e:y=b
  ·exact .inr ⟨by rw[e],e⟩
  ·exact .inl ⟨h1,e⟩
theorem cz.Gz (h:cz l O t S)(b y:Int):y∈b9 (cu S b) l.length↔y∈b9 S l.length∧y≠b:=by
 rw[(h.rem b).mem,h.mem,lU h.nodup]
theorem oP{P:Prop}(h:P:=by
 constructor
 ·rintro(h2|⟨_,h2⟩)
  ·exact .inr h2
  ·exact .inl h2
 ·rintro(h2|h2)
  ·exact .inr ⟨by rw[h2],h2⟩
  ·exact .inl h2):P:=h
theorem cz.add (h:cz l O t S){b:Int}(h0:0≤b)(h1:b<64)(hp:0<bK l O b t):cz l O t (cF l O t S b).1∧
 (((cF l O t S b).2.2=false∧(cF l O t S b).2.1=0∧∀y,y∈b9 (cF l O t S b).1 l.length↔y=b∨y∈b9 S l.length)∨
  ((cF l O t S b).2.2=true∧(cF l O t S b).2.1∈b9 S l.length∧b∉b9 S l.length∧∀y,y∈b9 (cF l O t S b).1 l.length↔y=b∨(y∈b9 S l.length∧y≠(cF l O t S b).2.1))):=by
 obtain⟨hr,hpv⟩:=vL hp;unfold cF
 by_cases hb:b∈S (aZ l b)
 ·rw[if_pos hb];obtain⟨hI,hm⟩:=h.use hb;refine⟨hI,.inl ⟨rfl,rfl,fun y=>?_⟩⟩;rw[hm y];exact⟨.inr,fun h2=>h2.elim (fun e=>by rw[e,h.mem];exact hb) id⟩
 ·rw[if_neg hb];have pH:∀r,b∉S r:=h.no (by rw[h.mem];exact hb)
  by_cases hl:((S (aZ l b)).length:Int)<bK l O b t
  ·rw[if_pos hl];rw[hpv]at hl;rw[DM pH];have hI:=h.front h0 h1 hr pH hl;refine⟨hI,.inl ⟨rfl,rfl,fun y=>?_⟩⟩;rw[hI.mem,h.mem,mD];exact oP
  ·rw[if_neg hl];have hne:S (aZ l b)≠[]:=fun e=>by rw[e]at hl;simp at hl;omega
   have hv:=ql (l:=l) (b:=b) hne;generalize hm:fq l S (aZ l b) b=m at *;have XZ:∀r,b∉cu S m r:=fun r hr=>pH r ((lU h.nodup m b r).1 hr).1
   rw[DM XZ];have hI:=(h.rem m).front h0 h1 hr XZ (by
    rw[BW hv];have:=h.most _ hr;omega)
   have hmr:=(h.at_ hv).1;refine⟨hI,.inr ⟨rfl,by rw[h.mem,←hmr];exact hv,by rw[h.mem];exact hb,fun y=>?_⟩⟩;rw[hI.mem,h.mem,mD,lU h.nodup];exact oP
end
section
open Go.ChangeShapes Go.RowKit Go.WideShapes
def pM.G (j:pM)(n:Nat):Nat→Prop:=fun k=>k=j.p∨k=j.g∨k=j.eb∨k=j.i.pb∨k=j.i.ob∨(0<n∧∃o,j.i.A=some ⟨k,o,none⟩)
structure sq (blocks:Int)(q:Nat→Int)(l:List aH)(O:Nat→Nat→Int)(t:Nat)(j:pM)(S:Nat→List Int)(w:World):Prop where
 b:kO w j blocks q l O S
 i:cz l O t S
 t:j.t=t
 h:0<l.length→∀k o,j.i.A=some ⟨k,o,none⟩→k≠j.g∧k≠j.eb
section
variable {w w':World}{j:pM}{blocks:Int}{q:Nat→Int}{l:List aH}{O:Nat→Nat→Int}{t:Nat}{S S':Nat→List Int}
theorem gW.off {F:Nat→Prop}{i:kT}(h:gW w i blocks q l O)(ho:af F w w')(h1:¬F i.pb)(h2:¬F i.ob)(h3:0<l.length→∀k o,i.A=some ⟨k,o,none⟩→¬F k):gW w' i blocks q l O:=
 ⟨ho.ak h.ak h1,h.bL.q7 ho fun h0 k hk=>by
  obtain⟨g,o,e,_⟩:=h.bL.at_ 0 h0;rw[e]at hk;have:=aD.1 hk;subst this;exact h3 h0 g o e,ho.ak h.prt h2,h.hP,fun h0 k o e=>by obtain⟨cs,hb⟩:=h.ht h0 k o e;exact⟨cs,ho.ak hb (h3 h0 k o e)⟩⟩
theorem gW.ltA {i:kT}(h:gW w i blocks q l O)(h0:0<l.length):∀k o,i.A=some ⟨k,o,none⟩→k<w.heap.size:=fun k o e=>by
 obtain⟨g,o',e',hg,_⟩:=h.bL.at_ 0 h0;rw[e]at e';injection e' with e';injection e' with e1;subst e1;exact hg
theorem sq.ar {F:Nat→Prop}(h:sq blocks q l O t j S w)(ho:af F w w')(hF:∀k,j.G l.length k→¬F k):sq blocks q l O t j S w':=
 ⟨⟨ho.ak h.b.ak (hF _ (.inl rfl)),h.b.sp.ar ho (hF _ (.inr (.inl rfl))) (hF _ (.inr (.inr (.inl rfl)))),h.b.pl.off ho (hF _ (.inr (.inr (.inr (.inl rfl))))) (hF _ (.inr (.inr (.inr (.inr (.inl rfl)))))) fun h0 k o e=>hF k (.inr (.inr (.inr (.inr (.inr ⟨h0,o,e⟩))))),h.b.t3⟩,h.i,h.t,h.h⟩
theorem sq.lt (h:sq blocks q l O t j S w):∀k,j.G l.length k→k<w.heap.size:=fun k hk=>by
 rcases hk with rfl|rfl|rfl|rfl|rfl|⟨h0,o,e⟩
 ·exact h.b.ak.lt
 ·exact h.b.sp.UE.1
 ·exact h.b.sp.UE.2
 ·exact h.b.pl.ak.lt
 ·exact h.b.pl.prt.lt
 ·exact h.b.pl.ltA h0 k o e
theorem sq.tg (h:sq blocks q l O t j S w)(hs:iA w' j.g j.eb (l.length+1) S')(ho:af (ra j.g j.eb) w w')(hi:cz l O t S'):sq blocks q l O t j S' w':=by
 obtain⟨N,E,hm,_⟩:=h.b.sp;have n1:¬ra j.g j.eb j.p:=fun e=>e.elim (h.b.ak.off hm.1 aE) (h.b.ak.off hm.2 aE)
 have n2:¬ra j.g j.eb j.i.pb:=fun e=>e.elim (h.b.pl.ak.off hm.1 aE) (h.b.pl.ak.off hm.2 aE)
 have n3:¬ra j.g j.eb j.i.ob:=fun e=>e.elim (h.b.pl.prt.off hm.1 aE) (h.b.pl.prt.off hm.2 aE)
 exact⟨⟨ho.ak h.b.ak n1,hs,h.b.pl.off ho n2 n3 fun h0 k o e e2=>e2.elim (h.h h0 k o e).1 (h.h h0 k o e).2,h.b.t3⟩,hi,h.t,h.h⟩
theorem BB {n:Nat}:∀k,ra j.g j.eb k→j.G n k:=fun k hk=>hk.elim (fun e=>.inr (.inl e)) fun e=>.inr (.inr (.inl e))
end
def Q9 (l:List aH)(O:Nat→Nat→Int)(t:Nat):pQ (Nat→List Int):=
 ⟨fun S=>b9 S l.length,fun S b=>bm (cu S b) (aZ l b) b,cF l O t,fun S b=>cu S b,fun _=>0,fun b=>0<bK l O b t⟩
def vu:WW:=⟨181,184,179,183,180,182⟩
theorem pZ (p : Nat) : kQ 149 (aO p) "Has" vu.has ∧ kQ 149 (aO p) "Use" vu.use ∧ kQ 149 (aO p) "Add" vu.add ∧
 kQ 149 (aO p) "Remove" vu.rem ∧ kQ 149 (aO p) "All" vu.all :=
 ⟨⟨fun w=>by kernel_rfl,fun a w=>by kernel_rfl⟩,⟨fun w=>by kernel_rfl,fun a w=>by kernel_rfl⟩,⟨fun w=>by kernel_rfl,fun a w=>by kernel_rfl⟩,
  ⟨fun w=>by kernel_rfl,fun a w=>by kernel_rfl⟩,⟨fun w=>by kernel_rfl,fun a w=>by kernel_rfl⟩⟩
section
variable {blocks:Int}{q:Nat→Int}{l:List aH}{O:Nat→Nat→Int}{t:Nat}
theorem Pm (j:pM):OC (Q9 l O t) 149 (aO j.p) vu (j.G l.length) (sq blocks q l O t j) where
 KB:=(pZ j.p).1
 Kz:=(pZ j.p).2.1
 KD:=(pZ j.p).2.2.1
 KA:=(pZ j.p).2.2.2.1
 KC:=(pZ j.p).2.2.2.2
 ptr:=⟨j.p,rfl,.inl rfl⟩
 ar:=fun h ho hF=>h.ar ho hF
 lt:=fun h k hk=>h.lt k hk
 has:=fun {s w} b h=>by
  show Calls Tryz.prog 181 _ w fun e w'=>e= .returned (.bool (decide (b∈b9 s l.length)))∧af au w w'
  by_cases hb:b∈b9 s l.length
  ·rw[decide_eq_true hb];rw[h.i.mem]at hb;exact(rQ w h.b hb).mono fun e w' ⟨h1,h2⟩=>⟨h1,h2▸af.ai _ _⟩
  ·rw[decide_eq_false hb];exact(wv w h.b (h.i.no hb)).mono fun e w' ⟨h1,h2⟩=>⟨h1,h2▸af.ai _ _⟩
 all:=fun h=>Po _ h.b
 use:=fun {s w b} h hb _=>by
  have hb:b∈b9 s l.length:=hb;rw[h.i.mem]at hb;have ha:=h.i.at_ hb;obtain⟨n,rfl⟩:=Int.eq_ofNat_of_zero_le ha.2.2.1;exact(wu w h.b aj aj hb).mono fun e w' ⟨h1,h2,h3⟩=>⟨h1,h.tg h2 h3 (h.i.use hb).1,h3.mono fun k hk=>.inl (BB k hk)⟩
 add:=fun {s w b} h h0 h1 ht _=>by
  obtain⟨n,rfl⟩:=Int.eq_ofNat_of_zero_le h0;have ht:0<bK l O n t:=ht;have hA:=(h.i.add aj h1 ht).1;have htj:0<bK l O n j.t:=by rw[h.t];exact ht
  show Calls Tryz.prog 179 _ w fun e w'=>e= .returned (.tuple #[ah (cF l O t s n).2.1,.bool (cF l O t s n).2.2,ah 0])∧sq blocks q l O t j (cF l O t s n).1 w'∧af (j.G l.length) w w'
  unfold cF at hA ⊢
  by_cases hb:(n:Int)∈s (aZ l n)
  ·rw[if_pos hb]at hA ⊢;exact(Ek w h.b (by have:=(h.i.at_ hb).2.1;omega) aj hb htj).mono fun e w' ⟨h1,h2,h3⟩=>⟨h1,h.tg h2 h3 hA,h3.mono fun k hk=>.inl (BB k hk)⟩
  ·rw[if_neg hb]at hA ⊢;have pH:∀r,(n:Int)∉s r:=h.i.no (by rw[h.i.mem];exact hb)
   by_cases hl:((s (aZ l n)).length:Int)<bK l O n t
   ·rw[if_pos hl]at hA ⊢;exact(Ae w h.b aj pH htj (by rw[h.t];exact hl)).mono fun e w' ⟨h1,h2,h3⟩=>⟨h1,h.tg h2 h3 hA,h3.mono fun k hk=>.inl (BB k hk)⟩
   ·rw[if_neg hl]at hA ⊢;have hne:s (aZ l n)≠[]:=fun e=>by rw[e]at hl;simp at hl;omega
    have hv:=ql (l:=l) (b:=(n:Int)) hne;obtain⟨m,hm⟩:=Int.eq_ofNat_of_zero_le (h.i.at_ hv).2.2.1;have Wg:fq l s (aZ l n) n=(m:Int):=hm;rw[Wg]at hA hv ⊢;exact(Af w h.b aj pH htj (by rw[h.t];omega) Wg hv).mono fun e w' ⟨h1,h2,h3⟩=>⟨h1,h.tg h2 h3 hA,h3.mono fun k hk=>.inl (BB k hk)⟩
 rem:=fun {s w b} h hb=>by
  have hb:b∈b9 s l.length:=hb;rw[h.i.mem]at hb;have ha:=h.i.at_ hb;obtain⟨n,rfl⟩:=Int.eq_ofNat_of_zero_le ha.2.2.1;exact(Ej w h.b hb).mono fun e w' ⟨h1,h2,h3⟩=>⟨h1,h.tg h2 h3 (h.i.rem _),h3.mono fun k hk=>.inl (BB k hk)⟩
 lC:=fun {s w b} h hb=>by
  have hb:b∈b9 s l.length:=hb;rw[h.i.mem]at hb;exact(h.i.at_ hb).2.2
 nodup:=fun h=>h.i.DQ _ (dX _)
 KF:=fun h h0 h1 ht=>(h.i.add h0 h1 ht).2
 N7:=fun {s w b} h hb=>by
  have hb:b∈b9 s l.length:=hb;rw[h.i.mem]at hb;exact(h.i.use hb).2
 Gz:=fun {s w b} h hb y=>h.i.Gz b y
 KE:=fun _ _=>Nat.le_succ _
 Ox:=fun _ _=>Nat.le_succ _
 Ow:=fun _ _=>Nat.le_refl _
theorem yg:∀n,b9 (fun _=>[]) n= []
 |0=>rfl
 |n+1=>by rw[fD,yg n];rfl
def Y2 (blocks:Int)(q:Nat→Int)(l:List aH)(O:Nat→Nat→Int)(t:Nat):bj:=
 ⟨Nat→List Int,pM,Q9 l O t,149,vu,fun j=>aO j.p,fun j=>j.G l.length,fun j=>sq blocks q l O t j,fun _=>[],fun j=>Pm j,yg _⟩
end
def fm (c:aQ):Nat→Int:=fun t=>c.f (9+t)
def mq (c:aQ)(k:Nat):bj:=Y2 (c.f 2) (fm c) c.h (fJ c.h (fm c)) k
theorem sW (i:Nat)(s:tf)(t r x:Nat):(dB i s t).o r x=if r=i∧x=t then min s.left (s.c t)else s.o r x:=rfl
def mi (o:Nat→Nat→Int)(x:Nat):Nat→Int
 |0=>0
 |n+1=>mi o x n+o n x
theorem Cf (o:Nat→Nat→Int)(x i:Nat)(v:Int)(hz:o i x=0):∀n,mi (fun r y=>if r=i∧y=x then v else o r y) x n=mi o x n+if i<n then v else 0
 |0=>by simp[mi]
 |n+1=>by
  unfold mi;rw[Cf o x i v hz n]
  by_cases e:n=i
  ·subst e;have h1:(if n=n∧x=x then v else o n x)=v:=if_pos ⟨rfl,rfl⟩;have h2:(if n<n then v else 0)=0:=if_neg aj;have h3:(if n<n+1 then v else 0)=v:=if_pos aj;rw[h1,h2,h3];omega
  ·have h1:(if n=i∧x=x then v else o n x)=o n x:=if_neg (fun h=>e h.1);rw[h1]
   by_cases h2:i<n
   ·rw[if_pos h2,if_pos aj];omega
   ·rw[if_neg h2,if_neg aj];omega
theorem rW (o o':Nat→Nat→Int)(x:Nat)(h:∀r,o r x=o' r x):∀n,mi o x n=mi o' x n
 |0=>rfl
 |n+1=>by unfold mi;rw[rW o o' x h n,h n]
structure VF (q:Nat→Int)(n:Nat)(D:Nat→Prop)(s:tf):Prop where
 o0:∀r x,0≤s.o r x
 c0:∀x,x<3→0≤s.c x
 sum:∀x,x<3→mi s.o x n+s.c x=q x
 no:∀r x,¬D r→s.o r x=0
theorem yJ {q:Nat→Int}{n:Nat}{D:Nat→Prop}{l:List aH}{s:tf}{i:Nat}(h:VF q n D s)(hi:¬D i)(bL:i<n)(hl:0≤(l.getD i default).size):
 ∀k,k≤3→0≤(fV l s i k).left∧VF q n (fun r=>D r∨r=i) (fV l s i k)∧∀x,k≤x→(fV l s i k).o i x=0
 |0,_=>⟨hl,⟨h.o0,h.c0,h.sum,fun r x hr=>h.no r x fun e=>hr (.inl e)⟩,fun x _=>h.no i x hi⟩
 |k+1,hk=>by
  obtain⟨h1,h2,h3⟩:=yJ h hi bL hl k aj;rw[rZ];generalize fV l s i k=m at *;have hc:=h2.c0 k aj;refine⟨by unfold dB;dsimp only;omega,⟨fun r x=>?_,fun x hx=>?_,fun x hx=>?_,fun r x hr=>?_⟩,fun x hx=>?_⟩
  ·rw[sW];split
   ·omega
   ·exact h2.o0 r x
  ·unfold dB;dsimp only;split
   ·omega
   ·exact h2.c0 x hx
  ·have hs:=h2.sum x hx
   by_cases e:x=k
   ·subst e;have e1:mi (dB i m x).o x n=mi m.o x n+min m.left (m.c x):=by
     have:=Cf m.o x i (min m.left (m.c x)) (h3 x (dX _)) n;rw[if_pos bL]at this;exact this
    rw[e1];unfold dB;dsimp only;rw[if_pos rfl];omega
   ·rw[rW (dB i m k).o m.o x (fun r=>by rw[sW,if_neg (fun h=>e h.2)])];unfold dB;dsimp only;rw[if_neg e];exact hs
  ·rw[sW,if_neg (fun e=>hr (.inr e.1))];exact h2.no r x hr
  ·rw[sW,if_neg (fun e=>by omega)];exact h3 x aj
theorem C4 {q:Nat→Int}{n:Nat}{D:Nat→Prop}{l:List aH}{s:tf}{i:Nat}(h:VF q n D s)(hi:¬D i)(bL:i<n)(hl:0≤(l.getD i default).size):VF q n (fun r=>D r∨r=i) (iM l s i):=by
 obtain⟨h1,h2,h3⟩:=yJ (l:=l) h hi bL hl 3 (dX _);rw[iI];generalize fV l s i 3=m at *;refine⟨fun r x=>?_,h2.c0,fun x hx=>?_,fun r x hr=>?_⟩
 ·dsimp only;split
  ·exact h1
  ·exact h2.o0 r x
 ·have:=h2.sum x hx;rw[rW _ m.o x (fun r=>by dsimp only;rw[if_neg (fun h=>by omega)])];exact this
 ·dsimp only;rw[if_neg (fun e=>hr (.inr e.1))];exact h2.no r x hr
theorem wC {q:Nat→Int}{n:Nat}{l:List aH}(hl:∀i,i<n→0≤(l.getD i default).size):∀(ord:List Nat) {D:Nat→Prop} {s:tf},VF q n D s→ord.Nodup→(∀x∈ord,¬D x∧x<n)→∃D',VF q n D' (ord.foldl (iM l) s)
 | [],D,s,h,_,_=>⟨D,h⟩
 |i :: ord,D,s,h,hn,ho=>by
  have h1:=ho i (List.mem_cons_self ..);rw[List.nodup_cons]at hn;refine wC hl ord (C4 h h1.1 h1.2 (hl i h1.2)) hn.2 fun x hx=>⟨fun e=>e.elim (ho x (List.mem_cons_of_mem _ hx)).1 fun e=>hn.1 (e▸hx),(ho x (List.mem_cons_of_mem _ hx)).2⟩
theorem yz (x:Nat):∀n,mi (fun _ _=>0) x n=0
 |0=>rfl
 |n+1=>by unfold mi;rw[yz x n];rfl
theorem Qo {blocks:Int}{l:List aH}(hP:cT blocks l){q:Nat→Int}(hq:∀x,x<3→0≤q x)(hn:(a8 (bn l)).Nodup):(∀r x,0≤fJ l q r x)∧∀x,x<3→mi (fJ l q) x l.length≤q x:=by
 obtain⟨D,h⟩:=wC (q:=q) (n:=l.length) (l:=l) (fun i hi=>by have:=hP.1 i hi;unfold Aj at this;omega) (a8 (bn l)) (D:=fun _=>False) (s:=⟨q,fun _ _=>0,0⟩)
  ⟨fun _ _=>Int.le_refl _,hq,fun x hx=>by show mi (fun _ _=>0) x l.length+q x=q x;rw[yz];omega,fun _ _ _=>rfl⟩ hn fun x hx=>⟨id,by have:=kv (bn l) x hx;rwa [bG]at this⟩
 exact⟨h.o0,fun x hx=>by have h1:=h.sum x hx;have h2:=h.c0 x hx;unfold fJ BL;omega⟩
section
theorem L5 {l:List aH}{O:Nat→Nat→Int}{t:Nat}(h:∀r,r<l.length→0≤O r t):cz l O t (fun _=>[]):=
 ⟨fun h=>(by cases h),fun _=>List.nodup_nil,fun r hr=>(by have:=h r hr;simpa using this)⟩
theorem Iv {c:aQ}{k:Nat}(hP:dp c)(hk:k<3)(hp:c.f 5=2)(hO:∀r,r<c.h.length→0≤fJ c.h (fm c) r k):(mq c k).Made c (k+1):=by
 intro w A n cp bL;have HN:=ae<|fun w (h:aX w A n cp c.h)=>IK (q:=fm c) w h hP.hs hP.p2 fun t ht=>hP.pc t ht;have HPN:=ae<|fun w i (h:gW w i (c.f 2) (fm c) c.h (fJ c.h (fm c)))=>Pn (t:=k) w h hk;have HC:=ae<|fun(W:World) (bb:Nat) (hb:Box W bb 25 (ao c (.slice A n cp))) (i:Nat) (hi:i<16)=>hb.ag (aL c (.slice A n cp) hi);have HH:=ae<|fun(W:World) (bb:Nat) (hb:Box W bb 25 (ao c (.slice A n cp)))=>hb.ag (kX c (.slice A n cp));have rC:=ae bL;have cO:=ae hO;have hw:IntKind.i64.wrap (((k+1:Nat):Int) - 1)=k:=by rw[IntKind.wrap_i64];omega
 have Gj:(k:Int)<3:=aj;have me:=ae hp
 show Calls Tryz.prog 53 #[.agg (ao c (.slice A n cp)),ah ((k+1:Nat):Int)] w (KU (mq c k) w)
 clear bL hO hp
 go_enter Tryz.func53,Tryz.ntmps53
 go_upto_region 1 with fail;have HB:=ae<|Box.fresh w 25 (ao c (.slice A n cp));have HO:=ae<|(af.ai au w).alloc (.cells (ao c (.slice A n cp)) 25);change Code.wp _ _ _ _ (w.alloc (.cells (ao c (.slice A n cp)) 25));generalize w.alloc (.cells (ao c (.slice A n cp)) 25)=W1 at *;generalize w.heap.size=bb at *;have c5:=HC.out W1 bb HB 5 aE;rw[me.out]at c5;have c2:=HC.out W1 bb HB 2 aE;have ck:=HC.out W1 bb HB (9+k) aj;have c9:=HC.out W1 bb HB 9 aE;have c10:=HC.out W1 bb HB 10 aE;have c11:=HC.out W1 bb HB 11 aE;have M9:=HH.out W1 bb HB;have AK:Hid (Calls Tryz.prog 81 #[.slice A n cp,ah (c.f 2),.agg #[ah (c.f 9),ah (c.f 10),ah (c.f 11)]] W1 (Yl (c.f 2) (fm c) c.h W1)):=ae<|HN W1 (rC.keep HO);clear HC HH HN me;go_upto_region 4 with(go_at_call 81;refine AK.mono ?_;rintro e W2 ⟨i,rfl,h1,h2,h3⟩;have H1:=ae h1;have H2:=ae h2;have H3:=ae h3;clear h1 h2 h3);clear c5 c2 ck c9 c10 c11 M9 AK;have abn:=ae<|HPN W2 i H1;clear HPN;go_wp2_with (go_at_call 82;refine abn.mono ?_;rintro e W3 ⟨p,g,eb,rfl,h1,h2,h3,h4,h5⟩;have G1:=ae h1;have G2:=ae h2;have G3:=ae h3;have G4:=ae h4;have G5:=ae h5;clear h1 h2 h3 h4 h5);go_ret;have wU:=HO.size;have uC:=H3.size;refine⟨⟨p,g,eb,i,k⟩,rfl,⟨G1.out,L5 cO,rfl,fun h0 kk o e=>?_⟩,fun j hj=>?_,(HO.trans H3).trans G5.out⟩
 ·have h1:=H1.ltA h0 kk o e;have h2:=G3.out;have h3:=G4.out
  show kk≠g∧kk≠eb
  omega
 ·have h2:=G2.out;have h3:=G3.out;have h4:=G4.out;rcases hj with rfl|rfl|rfl|rfl|rfl|⟨h0,o,e⟩
  ·omega
  ·omega
  ·omega
  ·have:=H2.out i.pb (.inl rfl);show w.heap.size≤i.pb;omega
  ·have:=H2.out i.ob (.inr (.inl rfl));show w.heap.size≤i.ob;omega
  ·have:=H2.out j (.inr (.inr ⟨o,e⟩));omega
end
end
end Go.Proofs.YtpcfhbeakecihaaGreat

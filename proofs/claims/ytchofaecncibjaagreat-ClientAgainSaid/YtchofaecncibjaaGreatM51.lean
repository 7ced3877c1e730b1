/- Lemmas. -/
import Derived.Test.YtchofaecncibjaaGreatM46
set_option linter.all false
set_option maxHeartbeats 20000000
set_option maxRecDepth 100000
namespace Go.Proofs.YtchofaecncibjaaGreat
open Go.ChangeShapes Go.RowKit Go.WideShapes
theorem LL (S:Nat→kY){i n:Nat}(h:i≤n):∃T,dx S n=dx S i ++ T:=by
 induction n with
 |zero=>
  obtain rfl:i=0:=ao;exact⟨[],by rw[List.append_nil]⟩
 |succ n ih=>
  by_cases e:i=n+1
  ·subst e;exact⟨[],by rw[List.append_nil]⟩
  ·obtain⟨T,hT⟩:=ih ao;exact⟨T ++ (if(S n).op≠0 then[ie n (S n)]else[]),by rw[dx,hT,List.append_assoc]⟩
theorem TS (S:Nat→kY){i n:Nat}(h:i<n)(h0:(S i).op≠0):(dx S i).length<(dx S n).length∧(dx S n).getD (dx S i).length Gj=ie i (S i):=by
 obtain⟨T,hT⟩:=LL S (show i+1≤n from h);rw[kS h0]at hT;rw[hT];refine⟨by simp,?_⟩;rw[List.getD_eq_getElem?_getD,List.append_assoc,List.getElem?_append_right (dm _),Nat.sub_self];rfl
theorem Pm (i:Nat)(s:kY):(ie i s).m.f 2=i∧(ie i s).m.f 4=s.op∧(ie i s).m.f 5=s.blk:=by
 unfold ie
 split<;>exact⟨rfl,rfl,rfl⟩
structure Yu {c:aM}{hP:cK c}{hk:0<3}(Z:ZN)(a:cH (aQ c 0 hP hk))(o:cJ (aQ c 0 hP hk) c 0)(r:kK)(M1 M2:CM (aQ c 0 hP hk).σ)(Dr:Nat→List Int)(fI:Nat)(cv:Value)(w wr:World):Prop where
 j:LJ Z a o r M1 M2 Dr wr
 B:Z.B=w.heap.size
 fr:∀j,tk a o r j→j≠fI
 cf:Box wr fI 25 (ak c cv)
 o:ag az w wr
theorem Yu.keep {c:aM}{hP:cK c}{hk:0<3}{Z:ZN}{a:cH (aQ c 0 hP hk)}{o:cJ (aQ c 0 hP hk) c 0}{r:kK}{M1 M2:CM (aQ c 0 hP hk).σ}{Dr:Nat→List Int}{fI:Nat}{cv:Value}{w wr w2:World}(h:Yu Z a o r M1 M2 Dr fI cv w wr)(ho:ag az wr w2):Yu Z a o r M1 M2 Dr fI cv w w2:=
 ⟨h.j.keep ho,h.B,h.fr,ho.aq h.cf id,h.o.trans ho⟩
theorem Yu.cli {c:aM}{hP:cK c}{hk:0<3}{Z:ZN}{a a':cH (aQ c 0 hP hk)}{o:cJ (aQ c 0 hP hk) c 0}{r:kK}{M1 M1' M2:CM (aQ c 0 hP hk).σ}{Dr:Nat→List Int}{fI:Nat}{cv:Value}{w wr w2:World}(h:Yu Z a o r M1 M2 Dr fI cv w wr)(hb:bm Z (aQ c 0 hP hk) c a' M1' w2)(hs:ib c a a' wr w2):Yu Z a' o r M1' M2 Dr fI cv w w2:=
 ⟨h.j.prog hb hs,h.B,fun j hj=>(hs.lj.W j hj).elim (fun e=>h.fr j e) fun e=>by have:=h.cf.lt;omega,hs.o.aq h.cf fun e=>h.fr fI (.inl e) rfl,h.o.aC hs.o fun j hj=>.inr (by rw[←h.B];exact h.j.p.lo j hj)⟩
def aca {c:aM}{hP:cK c}{hk:0<3}(Z:ZN)(o:cJ (aQ c 0 hP hk) c 0)(r:kK)(M2:CM (aQ c 0 hP hk).σ)(Dr:Nat→List Int)(l fI:Nat)(cv:Value)(n:Nat)(w:World)(iv:Value)(wr:World):Prop:=
 ∃(q:Nat) (a:cH (aQ c 0 hP hk)) (M1:CM (aQ c 0 hP hk).σ),q≤n∧iv=ah q∧a.l=l∧M1.S=M2.S∧Yu Z a o r M1 M2 Dr fI cv w wr
def afw (S:Nat→kY)(n:Nat)(w:World)(tv iv:Value)(wr:World):Prop:=∃i:Nat,i≤n∧iv=ah i∧tv=ah (dx S i).length∧ag az w wr
section
theorem JF (c:aM)(L:List iO)(A B:Option Addr)(m n:Nat)(nb:Nat)(w:World)(bw:aW w A c.h.length m c.h)(hL:fO w.heap.size w B L.length n L)(EM:nb≤255):
 Calls Tryz.prog 6 #[.agg (ak c (.slice A c.h.length m)),.slice B L.length n,.int .u8 nb] w fun e w'=>e= .returned (.bool true)∧ag az w w':=by
 have kx:=ae bw;have HL:=ae hL;have fh:=ae<|Nat.le_trans hL.cap hL.max;have Vs:=ae<|Nat.le_trans bw.cap bw.max;have HB:=ae<|Box.fresh w 25 (ak c (.slice A c.h.length m));have HO:=ae<|(ag.aj az w).alloc (.cells (ak c (.slice A c.h.length m)) 25);clear bw hL
 go_enter Tryz.func6,Tryz.ntmps6
 go_upto_region 1 with fail;change Code.wp _ _ _ _ (w.alloc (.cells (ak c (.slice A c.h.length m)) 25));generalize w.alloc (.cells (ak c (.slice A c.h.length m)) 25)=W1 at *;obtain⟨fI,EP⟩:∃fI,fI=w.heap.size:=⟨_,rfl⟩;rw[←EP]at HB ⊢;have JY:=ae EP;clear EP;go_upto_region 3 with(go_at_call 9;refine(lB W1).mono ?_;rintro e W2 ⟨rfl,bp⟩);have cO:=ae<|bp.aq HB id;have bf:=ae<|HO.trans bp;clear bp HB HO;have GC:=ae<|nx (cf:=c) (A:=A) (m:=m) (HL.keep bf) Vs;go_upto_if 19 with(first|(refine fH (ak c (.slice A c.h.length m)) cO Tryz.underlying25 ?_)|(go_at_call 10;refine GC.mono ?_;rintro e W3 ⟨rfl,cB⟩));have dM:=ae<|cB.aq cO id;have bn:=ae<|bf.trans cB;clear cB cO bf GC
 cases ye:xi c.h.length L with
 |true=>
  clear ye;go_wp2;go_ret;exact⟨rfl,bn⟩
 |false=>
  obtain⟨_,Mn,vA⟩:=tU ye;have Bi:=ae Mn;have oL:=ae vA;clear ye Mn vA
  by_cases hP:cK c
  ·have hk:0<3:=aD;have lK:=ae hP;have HN:=ae<|uv (kp hP hk) hP W3 (kx.keep bn);have Mz:=aB (∀W,ag az w W→Calls Tryz.prog 12 #[.agg (ak c (.slice A c.h.length m))] W (DS (aQ c 0 hP hk) c w.heap.size W)) (fun W ho=>uo hP hk W (kx.keep ho) ho.size);have nG:=ae<|o8 (hP:=hP) (hk:=hk);go_upto_region 8 with(first|(refine fH (ak c (.slice A c.h.length m)) dM Tryz.underlying25 ?_)|(go_at_call 11;refine HN.mono ?_;rintro e W4 ⟨i0,l0,Mq,Mg,u0,g0,Mp,Me,uM,wQ,rfl,h1,h2,h3,h4,h5,h6,h7,h8,h9,ha,hb,hc,hd,he,hf,ho⟩;have wN:=ae<|iq (km hP hk) (B:=w.heap.size) bn.size h1 h2 h3 h4 h5 h6 h7 ⟨h8,h9,ha,hb,hc,hd,he,hf⟩;have Gr:=aB (∀k,b6 (⟨i0,l0,Mq,Mg,u0,g0,Mp,Me,uM,wQ,aJ,fun _=>aJ,fun _=>none⟩:cH (aQ c 0 hP hk)) k→W3.heap.size≤k) ((iq (km hP hk) (B:=W3.heap.size) (dm _) h1 h2 h3 h4 h5 h6 h7 ⟨h8,h9,ha,hb,hc,hd,he,hf⟩).lo);have bK:=ae<|bn.trans ho;have iM:=ae<|ho.aq dM id;clear h1 h2 h3 h4 h5 h6 h7 h8 h9 ha hb hc hd he hf ho));have iG:=iM;have E3:=wN;have bM:=bK;clear iM wN bK;generalize W4=W5 at *;have w7:=ae<|Mz W5 bM;generalize zC:(⟨i0,l0,Mq,Mg,u0,g0,Mp,Me,uM,wQ,aJ,fun _=>aJ,fun _=>none⟩:cH (aQ c 0 hP hk))=a0 at *;obtain rfl:l0=a0.l:=by rw[←zC]
   clear zC HN Mz;go_upto_region 9 with(first|(refine fH (ak c (.slice A c.h.length m)) iG Tryz.underlying25 ?_)|(go_at_call 12;refine w7.mono ?_;rintro e W6 ⟨o0,r0,rfl,h1,h2,h3⟩;have Mv:=ae h1;have nR:=ae h2;have cZ:=ae h3;clear h1 h2 h3));have C9:=ae (show ve ⟨w.heap.size,ke o0 r0.r⟩ a0 o0 r0 (m0 (aQ c 0 hP hk)) [] [] (fun _=>[]) fI (.slice A c.h.length m) 0 w W6 from
    {j:=LJ.start (M:=m0 (aQ c 0 hP hk)) (M2:=m0 (aQ c 0 hP hk)) E3 Mv cZ nR
     B:=rfl
     p:=⟨rfl,fun j hj h=>absurd rfl h,dm _,by show(aQ c 0 hP hk).sp.eE (aQ c 0 hP hk).s0≤0;rw[nG.out];exact dm _⟩
     h1:=Nat.le_refl _
     h2:=Nat.le_refl _
     fr:=fun j hj e=>by
      exact mo
     cf:=cZ.aq iG id
     o:=bM.trans cZ})
   clear dM bn iG E3 bM w7 Gr Mv nR cZ;go_upto_region 10 with fail;obtain⟨l0,hl0⟩:∃l0,l0=a0.l:=⟨_,rfl⟩;obtain⟨x0,th⟩:∃x0,x0=r0.x:=⟨_,rfl⟩;rw[←hl0,←th]
   go_loopw [31] (fun iv wr=>Ss c hP hk l0 x0 fI (.slice A c.h.length m) L.length w iv wr) (fun iv _=>L.length - (intOf iv).toNat)
   case atStart=>exact⟨0,_,a0,o0,r0,_,[],_,dT _,rfl,hl0.symm,th.symm,C9⟩
   case round=>
    clear C9;obtain⟨k,Z,a,o,r,N,E,Dr,nO,rfl,bu,CX,hI⟩:=hrel;clear hl0 th;subst bu CX;have HI:=ae hI;clear hI
    by_cases aY:k<L.length
    ·obtain⟨g,og,dv,rfl,hg,jU,hdd⟩:=HL.ed HI.o HI.B aY;have nS:=oL.out k aY;have iV:(k:Int)<L.length:=ao;have Fk:(k:Int)<1000:=by have:=Bi.out;omega
     have bL:=ae aY;have yj:=ae (show k≤1000 by omega);have GH:=ae (show E.length≤1000 by have:=HI.h1;omega);have xl:=ae nS;have wM:=ae jU;have yA:=ae hdd;clear jU aY nO nS hdd;generalize L.getD k default=x at *;obtain⟨dA,dc,rfl⟩:=yA.shape;have Mt:=aB (∀j v,(bV x (.slice dA x.d.length dc)).toList[j]? =some v→aE wr g (og+k*14+j) v) (fun j v hj=>wM j v (by rw[←Array.getElem?_toList];exact hj));go_upto_region 12 with(first|(refine wpList_load_mid rfl 39 _ rfl g (og+k*14) rfl (bV x (.slice dA x.d.length dc)).toList _ Mt Tryz.underlying39 rfl bZ ?_)|(refine fJ (bV x (.slice dA x.d.length dc)) (Box.fresh wr 39 lM) (tX _ _ _ _) ?_));have bT:ag az wr ((wr.alloc (.cells lM 39)).setRow wr.heap.size (bV x (.slice dA x.d.length dc))):=((ag.aj az wr).alloc _).au (.inr (dm _)) _;have gY:=ae<|(Box.fresh wr 39 lM).au (bV x (.slice dA x.d.length dc));have w8:=aB (¬tk a o r wr.heap.size) (fun e=>by have:=HI.j.kB e;omega);have fD:=ae<|HI.keep bT;have oo:=ae<|yA.keep bT;change Code.wp _ _ _ _ ((wr.alloc (.cells lM 39)).setRow wr.heap.size (bV x (.slice dA x.d.length dc)));clear bT HI yA wM Mt;generalize(wr.alloc (.cells lM 39)).setRow wr.heap.size (bV x (.slice dA x.d.length dc))=W8 at *;generalize wr.heap.size=ab at *;have JV:=ae<|xu (x:=x) fD.j fD.p yj GH GH oo (by have:=xl.out;omega);go_wp2_with (first|(refine fH (bV x (.slice dA x.d.length dc)) gY Tryz.underlying39 ?_)|(go_at_call 18;refine JV.mono ?_;rintro e W9 ⟨Z9,a9,o9,r9,YK,rfl,Yr,Yh,CL⟩));have ti:=BN (K:=(aQ c 0 hP hk)) (c:=c) fD.p.en x;have Rc:=ae<|fD.step (N':=(lI (aQ c 0 hP hk) c N x).wE []) Yh CL Yr (fD.act nG x) fq fq
     go_roundw
     case rel=>exact⟨k+1,Z9,a9,o9,r9,_,_,YK,bL,by go_num,CL.l,CL.x,Rc⟩
     case measure=>simp[intOf];have:=bL.out;omega
    ·obtain rfl:k=L.length:=ao;clear aY nO;have HG0:=aB (Yu Z a o r (N.wE E) (N.wE E) Dr fI (.slice A c.h.length m) w wr) (⟨HI.j,HI.B,HI.fr,HI.cf,HI.o⟩);clear HI;go_upto_region 15 with fail;obtain⟨dG,acS⟩:∃dG:Nat,dG=1+nb % 3:=⟨_,rfl⟩;have e7:(1+(nb:Int) % 3)=(dG:Int):=by rw[acS];omega
     rw[e7];have Bb:dG≤3:=ao;have wN:=ae Bb;clear e7 acS EM
     go_loopw [44] (fun iv wr=>aca Z o r (N.wE E) Dr a.l fI (.slice A c.h.length m) dG w iv wr) (fun iv _=>dG - (intOf iv).toNat)
     case atStart=>exact⟨0,a,N.wE E,dT _,rfl,rfl,rfl,HG0⟩
     case round=>
      clear HG0;obtain⟨q,a1,M1,hq,rfl,bu,hS,hG⟩:=hrel;have HG:=ae hG;have HS:=ae hS;have GI:=ae bu;clear hG hS bu
      by_cases hql:q<dG
      ·have hqi:(q:Int)<dG:=ao;have HQL:=ae hql;have hgn:=IK (kp hP hk) HG.j.p;rw[GI.out]at hgn;have HGN:=ae hgn;clear hgn hql hq;go_upto_region 17 with(go_at_call 22;refine HGN.mono ?_;rintro e W1 ⟨a2,rfl,hb,hs⟩;have HG1:=ae<|HG.cli hb hs;have zJ:=aB (a2.l=a.l) (hs.l.trans GI);clear hb hs);have wF:=kT HG1.j.p;rw[zJ.out,show(aQ c 0 hP hk).sp.all (zP (aQ c 0 hP hk).s0 M1).s= []from(aQ c 0 hP hk).nil]at wF;have HBK:=ae wF;clear wF;go_upto_region 19 with(go_at_call 21;refine HBK.mono ?_;rintro e W2 ⟨v2,rfl,QJ,bp⟩;obtain⟨B2,c2,e2,_,_⟩:=QJ.shape;subst e2;have UN:=ae<|HG1.keep bp;clear QJ bp);have fK:=KZ UN.j.p;rw[zJ.out,show(zP (aQ c 0 hP hk).s0 M1).S=(N.wE E).S from HS.out]at fK;have HUP:=ae fK;clear fK;go_upto_region 20 with(go_at_call 23;refine HUP.mono ?_;rintro e W3 ⟨v3,rfl,hm,hb,ho⟩;have oG:=ae hm;have YH:=ae<|UN.cli hb (ib.same rfl (fun _ h=>h) (fun _ h=>h) ho);clear hm hb ho);obtain⟨TA,tc,et,_,htm⟩:=oG.shape;subst et;have y1:aw W3 fI 1 (cN c):=(YH.cf.af (aL c _ (i:=1) aD)).trans (by rw[YH.j.q.nn.2.2]);have mX:cN c≤4:=YH.j.q.nn.2.1;have ac2:=uD (N.wE E).S;have gZ:=ae ac2;clear htm ac2;go_upto_region 22 with fail;clear y1
       go_loopw [13,56] (fun tv iv wr=>afw (N.wE E).S (cN c) W3 tv iv wr) (fun _ iv _=>cN c - (intOf iv).toNat)
       case atStart=>exact⟨0,dT _,rfl,rfl,ag.aj _ _⟩
       case round=>
        obtain⟨i,hi,rfl,rfl,ho⟩:=hrel;have HO:=ae ho;clear ho
        by_cases lJ:i<cN c
        ·have YG:=ae<|YH.keep HO;obtain⟨Ad,nd,md,eD⟩:=YG.j.q.DD i lJ;obtain⟨z0,z1,_,_,_⟩:=bJ YG.j.q.slots lJ eD;have UC:(i:Int)<cN c:=ao;have F4:(0:Int)≤(i:Int):=Int.natCast_nonneg i;have JS:=ae lJ;have F6:=xS YG.j.p (i:Int);rw[zJ.out]at F6;have hmf:vk (cN c) (N.wE E).S (i:Int)=decide (((N.wE E).S i).op=0):=by
          unfold vk;rw[decide_eq_true F4,decide_eq_true UC,Int.toNat_natCast];rfl
         dsimp only at F6;rw[hmf]at F6
         by_cases yn:((N.wE E).S i).op=0
         ·rw[decide_eq_true yn]at F6;have Ge:=ae F6;have Vr:=ae<|xK (k:=i) yn;clear F6 hmf yn eD lJ hi z0 z1;go_wp2_with (go_at_call 24;refine Ge.mono ?_;rintro e W4 ⟨rfl,rfl⟩)
          go_roundw
          case rel=>exact⟨i+1,JS,by go_num,by rw[Vr.out],HO⟩
          case measure=>simp[intOf];have:=JS.out;omega
         ·rw[decide_eq_false yn]at F6;have Ge:=ae F6;have Vr:=ae<|kS (k:=i) yn;obtain⟨hlen,uN⟩:=TS (N.wE E).S lJ yn;obtain⟨g1,cp1,B1,m1,e1,yy,_⟩:=(oG.keep HO).at_ hlen;injection e1 with e1 _ e3;subst e1 e3;rw[uN]at yy;obtain⟨s2,s4,s5⟩:=Pm i ((N.wE E).S i);have w2:aw wr g1 ((dx (N.wE E).S i).length*11+2) ((ie i ((N.wE E).S i)).m.f 2):=yy 2 _ rfl;have w4:aw wr g1 ((dx (N.wE E).S i).length*11+4) ((ie i ((N.wE E).S i)).m.f 4):=yy 4 _ rfl;have w5:aw wr g1 ((dx (N.wE E).S i).length*11+5) ((ie i ((N.wE E).S i)).m.f 5):=yy 5 _ rfl;rw[s2]at w2;rw[s4]at w4;rw[s5]at w5;have Gd:=ae hlen;have jZ:aE wr r.x 19 (aU r.a8 (cN c) (cN c)):=YG.j.q.pw;have agp:(((dx (N.wE E).S i).length:Nat):Int)<((dx (N.wE E).S (cN c)).length:Nat):=ao;have hge:decide ((((dx (N.wE E).S (cN c)).length:Nat):Int)≤((dx (N.wE E).S i).length:Nat))=false:=decide_eq_false ao;have ac1:(0:Int)≤((dx (N.wE E).S i).length:Nat):=Int.natCast_nonneg _;have HAI:=ae<|gZ i;have HAN:=ae<|gZ (cN c);clear F6 hmf yn eD lJ hi uN hlen s2 s4 s5 yy;generalize acB:(dx (N.wE E).S i).length=ai at *;generalize acA:(dx (N.wE E).S (cN c)).length=an at *;generalize((N.wE E).S i).op=op at *;generalize((N.wE E).S i).blk=blk at *;have agW:ai≤4:=by have:=HAI.out;omega
          have agO:decide (an≤ai)=false:=decide_eq_false ao;have HQN:=ae acA;have HQI:=ae acB;clear acB acA;go_upto_region 25 with(go_at_call 24;refine Ge.mono ?_;rintro e W4 ⟨rfl,rfl⟩);have k0:aw wr.drew g1 (ai*11+2) i:=w2;have k1:aw wr.drew g1 (ai*11+4) op:=w4;have k2:aw wr.drew g1 (ai*11+5) blk:=w5;have k3:aE wr.drew r.x 19 (aU r.a8 (cN c) (cN c)):=jZ;have k4:aw wr.drew r.a8 (i*5) op:=z0;have k5:aw wr.drew r.a8 (i*5+1) blk:=z1;go_upto_region 25 with fail;refine dU (fun w':World=>aw w' g1 (ai*11+2) i∧aw w' g1 (ai*11+4) op∧aw w' g1 (ai*11+5) blk∧aE w' r.x 19 (aU r.a8 (cN c) (cN c))∧aw w' r.a8 (i*5) op∧aw w' r.a8 (i*5+1) blk) 44 fun aH=>?_
          refine bX [0,1,2,3,4,5,6,7,8,9,10,11,12,13,14,15,16,17,18,19,20,21,22,23,24,25,26,27,28,29,30,31,32,33,34,35,36,37,38,39,40,41,42,43] ?_;refine cG ?_;clear aH k0 k1 k2 k3 k4 k5;go_wp2
          go_roundw
          case rel=>exact⟨i+1,JS,by go_num,by rw[Vr.out,List.length_append,HQI.out];go_num,HO.drew⟩
          case measure=>simp[intOf];have:=JS.out;omega
        ·obtain rfl:i=cN c:=ao;clear lJ hi;go_wp2
         go_roundw
         case rel=>exact⟨q+1,a2,_,HQL,by go_num,zJ,by rfl,YH.keep HO⟩
         case measure=>simp[intOf];have:=HQL.out;omega
      ·obtain rfl:q=dG:=ao;clear hql hq;go_wp2;go_ret;exact⟨rfl,HG.o⟩
  ·exact mg
end
end Go.Proofs.YtchofaecncibjaaGreat

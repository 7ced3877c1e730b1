/- Lemmas. -/
import Derived.Test.YtchofaecncibjaaGreatM46
set_option linter.all false
set_option maxHeartbeats 20000000
set_option maxRecDepth 100000
namespace Go.Proofs.YtchofaecncibjaaGreat
open Go.ChangeShapes Go.RowKit Go.WideShapes
section
theorem rO{P:Prop}(h:P:=by
 go_wp2
 go_meet
 case rel=>exact⟨Z,a3,o,r4,(bd (aQ c 0 hP hk).sp c (cN c) N pm.m pm.d).wE [],_,YL,T,Gu.l,Gu.x,(Rc.keep ((ag.aj az W4).drew)),Vo.keep ((ag.aj az W4).drew),Kl⟩):P:=h
theorem JC (c:aM)(L:List iO)(A B:Option Addr)(m n:Nat)(w:World)(bw:aW w A c.h.length m c.h)(hL:fO w.heap.size w B L.length n L):
 Calls Tryz.prog 5 #[.agg (ak c (.slice A c.h.length m)),.slice B L.length n] w fun e w'=>e= .returned (.bool true)∧ag az w w':=by
 have kx:=ae bw;have HL:=ae hL;have fh:=ae<|Nat.le_trans hL.cap hL.max;have Vs:=ae<|Nat.le_trans bw.cap bw.max;have HB:=ae<|Box.fresh w 25 (ak c (.slice A c.h.length m));have HO:=ae<|(ag.aj az w).alloc (.cells (ak c (.slice A c.h.length m)) 25);clear bw hL
 go_enter Tryz.func5,Tryz.ntmps5
 go_upto_region 1 with fail;change Code.wp _ _ _ _ (w.alloc (.cells (ak c (.slice A c.h.length m)) 25));generalize w.alloc (.cells (ak c (.slice A c.h.length m)) 25)=W1 at *;obtain⟨fI,EP⟩:∃fI,fI=w.heap.size:=⟨_,rfl⟩;rw[←EP]at HB ⊢;have JY:=ae EP;clear EP;go_upto_region 3 with(go_at_call 9;refine(lB W1).mono ?_;rintro e W2 ⟨rfl,bp⟩);have cO:=ae<|bp.aq HB id;have bf:=ae<|HO.trans bp;clear bp HB HO;have GC:=ae<|nx (cf:=c) (A:=A) (m:=m) (HL.keep bf) Vs;go_upto_if 21 with(first|(refine fH (ak c (.slice A c.h.length m)) cO Tryz.underlying25 ?_)|(go_at_call 10;refine GC.mono ?_;rintro e W3 ⟨rfl,cB⟩));have dM:=ae<|cB.aq cO id;have bn:=ae<|bf.trans cB;clear cB cO bf GC
 cases ye:xi c.h.length L with
 |true=>
  clear ye;go_wp2;go_ret;exact⟨rfl,bn⟩
 |false=>
  obtain⟨_,Mn,vA⟩:=tU ye;have Bi:=ae Mn;have oL:=ae vA;clear ye Mn vA
  by_cases hP:cK c
  ·have hk:0<3:=aD;have lK:=ae hP;have HN:=ae<|uv (kp hP hk) hP W3 (kx.keep bn);have Mz:=aB (∀W,ag az w W→Calls Tryz.prog 12 #[.agg (ak c (.slice A c.h.length m))] W (DS (aQ c 0 hP hk) c w.heap.size W)) (fun W ho=>uo hP hk W (kx.keep ho) ho.size);have nG:=ae<|o8 (hP:=hP) (hk:=hk);go_upto_region 8 with(first|(refine fH (ak c (.slice A c.h.length m)) dM Tryz.underlying25 ?_)|(go_at_call 11;refine HN.mono ?_;rintro e W4 ⟨i0,l0,Mq,Mg,u0,g0,Mp,Me,uM,wQ,rfl,h1,h2,h3,h4,h5,h6,h7,h8,h9,ha,hb,hc,hd,he,hf,ho⟩;have wN:=ae<|iq (km hP hk) (B:=w.heap.size) bn.size h1 h2 h3 h4 h5 h6 h7 ⟨h8,h9,ha,hb,hc,hd,he,hf⟩;have Gr:=aB (∀k,b6 (⟨i0,l0,Mq,Mg,u0,g0,Mp,Me,uM,wQ,aJ,fun _=>aJ,fun _=>none⟩:cH (aQ c 0 hP hk)) k→W3.heap.size≤k) ((iq (km hP hk) (B:=W3.heap.size) (dm _) h1 h2 h3 h4 h5 h6 h7 ⟨h8,h9,ha,hb,hc,hd,he,hf⟩).lo);have bK:=ae<|bn.trans ho;have iM:=ae<|ho.aq dM id;clear h1 h2 h3 h4 h5 h6 h7 h8 h9 ha hb hc hd he hf ho));have iG:=iM;have E3:=wN;have bM:=bK;clear iM wN bK;generalize W4=W5 at *;have w7:=ae<|Mz W5 bM;generalize zC:(⟨i0,l0,Mq,Mg,u0,g0,Mp,Me,uM,wQ,aJ,fun _=>aJ,fun _=>none⟩:cH (aQ c 0 hP hk))=a0 at *;obtain rfl:l0=a0.l:=by rw[←zC]
   clear zC HN Mz;go_upto_region 9 with(first|(refine fH (ak c (.slice A c.h.length m)) iG Tryz.underlying25 ?_)|(go_at_call 12;refine w7.mono ?_;rintro e W6 ⟨o0,r0,rfl,h1,h2,h3⟩;have Mv:=ae h1;have nR:=ae h2;have cZ:=ae h3;clear h1 h2 h3));have C9:=ae (show ve ⟨w.heap.size,ke o0 r0.r⟩ a0 o0 r0 (m0 (aQ c 0 hP hk)) [] [] (fun _=>[]) fI (.slice A c.h.length m) 0 w W6 from
    {j:=LJ.start (M:=m0 (aQ c 0 hP hk)) (M2:=m0 (aQ c 0 hP hk)) E3 Mv cZ nR
     B:=rfl
     p:=⟨rfl,fun j hj h=>absurd rfl h,dm _,by show(aQ c 0 hP hk).sp.eE (aQ c 0 hP hk).s0≤0;rw[nG.out];exact dm _⟩
     h1:=Nat.le_refl _
     h2:=Nat.le_refl _
     fr:=fun j hj e=>by
      exact mo
     cf:=cZ.aq iG id
     o:=bM.trans cZ})
   clear dM bn iG E3 bM w7 Gr Mv nR cZ;go_upto_region 10 with fail;obtain⟨l0,hl0⟩:∃l0,l0=a0.l:=⟨_,rfl⟩;obtain⟨x0,th⟩:∃x0,x0=r0.x:=⟨_,rfl⟩;rw[←hl0,←th]
   go_loopw [33] (fun iv wr=>Ss c hP hk l0 x0 fI (.slice A c.h.length m) L.length w iv wr) (fun iv _=>L.length - (intOf iv).toNat)
   case atStart=>exact⟨0,_,a0,o0,r0,_,[],_,dT _,rfl,hl0.symm,th.symm,C9⟩
   case round=>
    clear C9;obtain⟨k,Z,a,o,r,N,E,Dr,nO,rfl,bu,CX,hI⟩:=hrel;clear hl0 th;subst bu CX;have HI:=ae hI;clear hI
    by_cases aY:k<L.length
    ·obtain⟨g,og,dv,rfl,hg,jU,hdd⟩:=HL.ed HI.o HI.B aY;have nS:=oL.out k aY;have iV:(k:Int)<L.length:=ao;have Fk:(k:Int)<1000:=by have:=Bi.out;omega
     have bL:=ae aY;have yj:=ae (show k≤1000 by omega);have GH:=ae (show E.length≤1000 by have:=HI.h1;omega);have xl:=ae nS;have wM:=ae jU;have yA:=ae hdd;clear jU aY nO nS hdd;generalize L.getD k default=x at *;obtain⟨dA,dc,rfl⟩:=yA.shape;have Mt:=aB (∀j v,(bV x (.slice dA x.d.length dc)).toList[j]? =some v→aE wr g (og+k*14+j) v) (fun j v hj=>wM j v (by rw[←Array.getElem?_toList];exact hj));go_upto_region 13 with(first|(refine wpList_load_mid rfl 39 _ rfl g (og+k*14) rfl (bV x (.slice dA x.d.length dc)).toList _ Mt Tryz.underlying39 rfl bZ ?_)|(refine fJ (bV x (.slice dA x.d.length dc)) (Box.fresh wr 39 lM) (tX _ _ _ _) ?_));have bT:ag az wr ((wr.alloc (.cells lM 39)).setRow wr.heap.size (bV x (.slice dA x.d.length dc))):=((ag.aj az wr).alloc _).au (.inr (dm _)) _;have gY:=ae<|(Box.fresh wr 39 lM).au (bV x (.slice dA x.d.length dc));have w8:=aB (¬tk a o r wr.heap.size) (fun e=>by have:=HI.j.kB e;omega);have fD:=ae<|HI.keep bT;have oo:=ae<|yA.keep bT;change Code.wp _ _ _ _ ((wr.alloc (.cells lM 39)).setRow wr.heap.size (bV x (.slice dA x.d.length dc)));clear bT HI yA wM Mt;generalize(wr.alloc (.cells lM 39)).setRow wr.heap.size (bV x (.slice dA x.d.length dc))=W8 at *;generalize wr.heap.size=ab at *;have y0:aw W8 ab 0 x.kind:=gY.af rfl
     go_upto_block 2 with fail
     clear y0
     go_cut [10] (fun tv wx=>Zh c hP hk a.l r.x fI (.slice A c.h.length m) (k+1) w tv wx)
     case first=>
      by_cases h0:x.kind=0
      ·have bk0:(x.kind==0)=true:=by simpa using h0
       have bk1:(x.kind==1)=false:=by rw[h0];rfl
       have bk4:(x.kind==4)=false:=by rw[h0];rfl
       have y1:aw W8 ab 1 x.slot:=gY.af rfl;have y2:aE W8 ab 2 (.bool x.wr):=gY.af rfl;have y8:aw W8 ab 8 (x.m.f 5):=gY.af rfl;have y13:aE W8 ab 13 (.slice dA x.d.length dc):=gY.af rfl
       by_cases hc:dJ c N.S x.slot x.wr (x.m.f 5) x.d.length=0
       ·have hs:lI (aQ c 0 hP hk) c N x=bB (aQ c 0 hP hk).sp c (cN c) N x.slot.toNat x.wr (x.m.f 5) x.d:=by unfold lI;rw[if_pos h0,if_pos hc]
        have DO:=ae<|uF (wr:=x.wr) fD.j fD.p yj GH hc oo;have HC:=ae hc;have HS:=ae hs;clear hc hs h0;go_upto_region 28 with(go_at_call 13;refine DO.mono ?_;rintro e W9 ⟨u9,a9,rfl,hm,hj,hs⟩;have EU:=ae hm;have H9:=ae hj;have Gt:=ae hs;clear hm hj hs);exact rS
       ·exact rJ
      by_cases h1:x.kind=1∨x.kind=4
      ·have y0:aw W8 ab 0 x.kind:=gY.af rfl;have hs:lI (aQ c 0 hP hk) c N x=bd (aQ c 0 hP hk).sp c (cN c) N (nH (cN c) N.S x).m (nH (cN c) N.S x).d:=by unfold lI;rw[if_neg ao,if_pos h1]
       have HS:=ae hs;have hh:=zr (a:=x) fD.j.q oo;rw[show(N.wE E).S=N.S from rfl]at hh;have HH:=ae hh;have YA:=ae<|fD.act nG x;rw[HS.out]at YA;clear hh hs HS;generalize nH (cN c) N.S x=pm at *;have key:∃b1 b4:Bool,(x.kind==0)=false∧(x.kind==1)=b1∧(x.kind==4)=b4∧(b1=true∨(b1=false∧b4=true)):=by
        exact mc
       clear h1;obtain⟨b1,b4,q0,q1,q4,qq⟩:=key;have UP:=ae<|zk (sp:=(aQ c 0 hP hk).sp) (c:=c) (n:=cN c) fD.p.en pm.m pm.d;rcases qq with rfl|⟨rfl,rfl⟩
       all_goals
        go_upto_region 20 with(first|(refine fH (bV x (.slice dA x.d.length dc)) gY Tryz.underlying39 ?_)|(go_at_call 15;refine HH.mono ?_;rintro e W1 ⟨A1,q1,rfl,F7,aR⟩;have jL:=ae F7;have aX:=ae aR;have H1:=ae<|fD.keep aR;clear F7 aR)|(refine fJ (aP pm.m (.slice A1 pm.d.length q1)) (Box.fresh W1 37 lE) (lz _ _ _ _) ?_));have bp:ag az W1 ((W1.alloc (.cells lE 37)).setRow W1.heap.size (aP pm.m (.slice A1 pm.d.length q1))):=((ag.aj az W1).alloc _).au (.inr (dm _)) _;have nz:=ae<|(Box.fresh W1 37 lE).au (aP pm.m (.slice A1 pm.d.length q1));have H2:=ae<|H1.keep bp;have tA:=ae<|jL.keep bp;have fh:=aB (¬tk a o r W1.heap.size) (fun e=>by have:=H1.j.kB e;omega);change Code.wp _ _ _ _ ((W1.alloc (.cells lE 37)).setRow W1.heap.size (aP pm.m (.slice A1 pm.d.length q1)));clear bp H1 jL aX oo HH y0;generalize(W1.alloc (.cells lE 37)).setRow W1.heap.size (aP pm.m (.slice A1 pm.d.length q1))=W2 at *;generalize W1.heap.size=mb at *;have YI:=ae<|B0 (m:=pm.m) H2.j H2.j.q.rg H2.p yj GH tA;go_upto_region 21 with(first|(refine fH (aP pm.m (.slice A1 pm.d.length q1)) nz Tryz.underlying37 ?_)|(go_at_call 16;refine YI.mono ?_;rintro e W3 ⟨u3,a3,rfl,hm,hj,hs⟩;have Qr:=ae hm;have H3:=ae hj;have AF:=ae hs;have oG:=ae<|hs.o.aq nz fh;have tf:=ae<|tA.aA hs.o H2.j.Md;have aa5:=aB (¬tk a3 o r mb) (fun e=>(hs.W mb e).elim fh fun e=>by have:=nz.lt;omega);have Qq:=aB (∀k,aK u3 k→¬tk a3 o r k) (fun k hk e=>e.elim (fun e=>absurd (hj.p.Gg e (hm.aq hk).2.choose_spec) aD) fun e=>by have:=(hm.aq hk).1;have:=H2.j.q.kB e;omega);clear hm hj hs));have HRH:=ae<|BZ (m:=pm.m) H3 H2.p yj GH tf;have mF:=aB (a3.l=a.l) (AF.l);obtain⟨TA,tc,et,_,htm⟩:=Qr.shape;subst et;have Kl:=ae<|Cr (sp:=(aQ c 0 hP hk).sp) (n:=cN c) (M:=N) hP pm.m pm.d;have HAK:=ae<|LG (sp:=(aQ c 0 hP hk).sp) (c:=c) (n:=cN c) (M:=N) pm.m pm.d;generalize bW (aQ c 0 hP hk).sp c (cN c) N pm.m pm.d=T at *;have htx:T.length≤9223372036854775807:=by unfold maxLen at htm;omega
        go_upto_region 22 with(first|(refine fH (aP pm.m (.slice A1 pm.d.length q1)) oG Tryz.underlying37 ?_)|(go_at_call 17;refine HRH.mono ?_;rintro e W4 ⟨u4,r4,YL,rfl,hm,hj,hs⟩;have H4:=ae hj;have Gu:=ae<|AF.trans hs;have Vo:=ae<|(Qr.aA hs.o H3.Md Qq).low H2.o.size;have yw:=ae<|hs.o.aq oG aa5;clear hm hj hs));have Rc:=ae<|H2.step (N':=(bd (aQ c 0 hP hk).sp c (cN c) N pm.m pm.d).wE []) H4 Gu rfl YA jy jy;clear htm
        by_cases hT0:T.length=0
        ·have ac4:((T.length:Nat):Int)=0:=ao;have hz:decide ((0:Int)<((T.length:Nat):Int))=false:=by rw[ac4];decide
         have Ay:decide (0<T.length)=false:=decide_eq_false ao;clear hT0 ac4;go_upto_region 22 with fail;refine oa (fun w':World=>True) 16 ?_ ?_
         ·trivial
         intro aH;refine yd [0,1,2,3,4,5,6,7,8,9,10,11,13,14] ?_;refine cM 12 fun Kc hK=>?_
         rw[if_neg cU];refine jS hK ?_ fun aH=>?_
         ·trivial
         clear hK;refine cM 15 fun Kc hK=>?_
         rw[if_neg cU];refine jS hK ?_ fun aH=>?_
         ·trivial
         clear hK;refine cG ?_;clear aH;exact rO
        ·have s6:0<T.length:=ao;obtain⟨g1,cp1,B1,m1,e1,y1,d1⟩:=Vo.at_ s6;injection e1 with e1 _ e3;subst e1 e3;have hz:decide ((0:Int)<((T.length:Nat):Int))=true:=decide_eq_true ao;have Ay:decide (0<T.length)=true:=decide_eq_true s6;have ago:(0:Int)<((T.length:Nat):Int):=ao;have HPM:=aB (T.getD 0 Gj∈T) (by rw[List.getD_eq_getElem?_getD,List.getElem?_eq_getElem s6];exact List.getElem_mem s6);have w0:aw W4 g1 0 ((T.getD 0 Gj).m.f 0):=y1 0 _ rfl;have w5:aw W4 mb 5 (pm.m.f 5):=yw.af rfl;have agi:=ae<|HAK _ HPM;generalize T.getD 0 Gj=p at *;have hd0:decide (T.length=0)=false:=decide_eq_false hT0;clear y1 d1;have k0:aw W4.drew g1 0 (p.m.f 0):=w0;have k1:aw W4.drew mb 5 (pm.m.f 5):=w5
         by_cases h4:p.m.f 0=4
         ·have yr:=ae<|agi h4;rw[h4]at k0 w0;clear h4;go_upto_region 22 with fail;refine dU (fun w':World=>aw w' g1 0 4∧aw w' mb 5 (pm.m.f 5)) 16 fun aH=>?_
          refine bX [0,1,2,3,4,5,6,7,8,9,10,11,13,14] ?_;refine cM 12 fun Kc hK=>?_
          go_simp;have wF:=kT (H4.p.keep ((ag.aj az W4).drew));rw[mF.out]at wF;refine wF.mono ?_;rintro e V4 ⟨v4,rfl,Az,cI⟩;have aam:¬pm.m.f 5∈(aQ c 0 hP hk).sp.all (bd (aQ c 0 hP hk).sp c (cN c) N pm.m pm.d).s:=fun e=>by
           have h9:=(H4.q.keys (pm.m.f 5)).2 e;have h8:(bd (aQ c 0 hP hk).sp c (cN c) N pm.m pm.d).D (pm.m.f 5)=none:=yr.out;have h7:((bd (aQ c 0 hP hk).sp c (cN c) N pm.m pm.d).D (pm.m.f 5)).isSome=true:=h9;rw[h8]at h7
           cases h7
          obtain⟨al,bu⟩:∃al,al=(aQ c 0 hP hk).sp.all (bd (aQ c 0 hP hk).sp c (cN c) N pm.m pm.d).s:=⟨_,rfl⟩;have Az:aF 3 V4 W4.drew.heap.size v4 al:=by rw[bu];exact Az
          rw[←bu]at aam;obtain⟨B4,c4,rfl,hx4,hy4⟩:=Az.shape;have yi:=ae Az.at;have HY4:=ae<|Nat.le_trans hx4 hy4;have HNI:=ae aam;have bK:=ae<|((ag.aj az W4).drew).trans cI;have k0:=cI.cell k0 id;have k1:=cI.cell k1 id;clear wF Az cI bu hx4 hy4 aam;refine eh hK fun aH=>?_
          clear hK;refine cM 15 fun Kc hK=>?_
          go_simp;have hhs:=fS B4 c4 al.length al (pm.m.f 5) V4 yi HY4;rw[decide_eq_false HNI.out]at hhs;refine hhs.mono ?_;rintro e V5 ⟨rfl,rfl⟩;clear hhs;refine eh hK fun aH=>?_
          clear hK;refine cG ?_;clear aH k0 k1 w0 w5;go_wp2
          go_meet
          case rel=>exact⟨Z,a3,o,r4,(bd (aQ c 0 hP hk).sp c (cN c) N pm.m pm.d).wE [],_,YL,T,Gu.l,Gu.x,(Rc.keep bK),Vo.keep bK,Kl⟩
         ·have b4':(p.m.f 0==4)=false:=by simpa using h4
          clear h4;go_upto_region 22 with fail;refine dU (fun w':World=>aw w' g1 0 (p.m.f 0)∧aw w' mb 5 (pm.m.f 5)) 16 fun aH=>?_
          refine yd [0,1,2,3,4,5,6,7,8,9,10,11,13,14] ?_;refine cM 12 fun Kc hK=>?_
          rw[if_neg cU];refine eh hK fun aH=>?_
          clear hK;refine cM 15 fun Kc hK=>?_
          rw[if_neg cU];refine eh hK fun aH=>?_
          clear hK;refine cG ?_;clear aH k0 k1 w0 w5;exact rO
      ·have y0:aw W8 ab 0 x.kind:=gY.af rfl;have b0:(x.kind==0)=false:=by simpa using h0
       have b1:(x.kind==1)=false:=by simpa using (fun e=>h1 (.inl e):¬x.kind=1)
       have b4:(x.kind==4)=false:=by simpa using (fun e=>h1 (.inr e):¬x.kind=4)
       have JV:=ae<|xu (x:=x) fD.j fD.p yj GH GH oo (by have:=xl.out;omega);have HK0:=ae h0;have HK1:=ae h1;have ti:=BN (K:=(aQ c 0 hP hk)) (c:=c) fD.p.en x;have ady:=ae ti;clear h0 h1 ti y0;go_upto_region 15 with(first|(refine fH (bV x (.slice dA x.d.length dc)) gY Tryz.underlying39 ?_)|(go_at_call 18;refine JV.mono ?_;rintro e W9 ⟨Z9,a9,o9,r9,YK,rfl,Yr,Yh,CL⟩));have Rc:=ae<|fD.step (N':=(lI (aQ c 0 hP hk) c N x).wE []) Yh CL Yr (fD.act nG x) (by rw[List.length_append];have:=fD.h1;have:=ady.out;omega) (by rw[List.length_append];have:=fD.h1;have:=ady.out;omega);have Gf:=ae<|CL.o.aq gY w8;have HL9:=aB (a9.l=a.l) (CL.l);have Qo:=aB (r9.x=r.x) (CL.x);clear Yh CL Yr
       by_cases h3:x.kind=3
       ·have y0:aw W9 ab 0 3:=by rw[←h3];exact Gf.af rfl
        have hs:(lI (aQ c 0 hP hk) c N x).s=(aQ c 0 hP hk).s0:=by unfold lI;rw[if_neg ao,if_neg ao,if_neg ao,if_pos h3];rfl
        have wF:=kT Rc.j.p;rw[HL9.out,show(aQ c 0 hP hk).sp.all ((((lI (aQ c 0 hP hk) c N x).wE []).wE (E ++ (lI (aQ c 0 hP hk) c N x).en)).s)= []from by show(aQ c 0 hP hk).sp.all (lI (aQ c 0 hP hk) c N x).s= [];rw[hs];exact(aQ c 0 hP hk).nil]at wF;have HBK:=ae wF;clear h3 hs wF;go_wp2_with (go_at_call 21;refine HBK.mono ?_;rintro e ga ⟨v4,rfl,Az,cI⟩;obtain⟨B4,c4,e4,_,_⟩:=Az.shape;subst e4)
        go_meet
        case rel=>exact⟨Z9,a9,o9,r9,_,_,YK,[],HL9,Qo,Rc.keep cI,bg.nil _ _ _,fun p hp=>by cases hp⟩
       ·have b3:(x.kind==3)=false:=by simpa using h3
        have y0:aw W9 ab 0 x.kind:=Gf.af rfl;clear h3;go_wp2
        go_meet
        case rel=>exact⟨Z9,a9,o9,r9,_,_,YK,[],HL9,Qo,Rc,bg.nil _ _ _,fun p hp=>by cases hp⟩
     case rest=>
      clear fD gY oo w8;obtain⟨Z,a9,o,r9,N,E,Dr,T,bu,CX,hI,hT,Rs⟩:=hcut;have HI:=ae hI;have HT:=ae hT;have HDM:=ae Rs;have GI:=ae bu;have HRX:=ae CX;clear hI hT Rs bu CX;obtain⟨TA,tc,rfl,_,J3⟩:=id HT.shape;have htx:T.length≤9223372036854775807:=by unfold maxLen at J3;omega
      obtain⟨W8,e8⟩:∃W8,W8=wc:=⟨_,rfl⟩;subst e8;clear J3;go_upto_region 30 with fail
      go_loopw [116] (fun iv wr=>aaS T.length W8 iv wr) (fun iv _=>T.length - (intOf iv).toNat)
      case atStart=>exact⟨0,dT _,rfl,ag.aj _ _⟩
      case round=>
       obtain⟨i,hi,rfl,ho⟩:=hrel;have HO:=ae ho;clear ho
       by_cases lJ:i<T.length
       ·obtain⟨g1,cp1,B1,m1,e1,y1,d1⟩:=(HT.keep HO).at_ lJ;injection e1 with e1 _ e3;subst e1 e3;have UC:(i:Int)<T.length:=ao;have JS:=ae lJ;have HPD:=ae<|HDM (T.getD i Gj) (by rw[List.getD_eq_getElem?_getD,List.getElem?_eq_getElem lJ];exact List.getElem_mem lJ);generalize T.getD i Gj=p at *;have Y1:=aB (∀j v,(aP p.m (.slice B1 p.d.length m1)).toList[j]? =some v→aE wr g1 (i*11+j) v) (fun j v hj=>y1 j v (by rw[←Array.getElem?_toList];exact hj));clear y1 d1 lJ hi;go_upto_region 32 with(first|(refine wpList_load_mid rfl 37 _ rfl g1 (i*11) rfl (aP p.m (.slice B1 p.d.length m1)).toList _ Y1.out Tryz.underlying37 rfl bZ ?_)|(refine fJ (aP p.m (.slice B1 p.d.length m1)) (Box.fresh wr 37 lE) (lz _ _ _ _) ?_));have bp:ag az wr ((wr.alloc (.cells lE 37)).setRow wr.heap.size (aP p.m (.slice B1 p.d.length m1))):=((ag.aj az wr).alloc _).au (.inr (dm _)) _;have nz:=ae<|(Box.fresh wr 37 lE).au (aP p.m (.slice B1 p.d.length m1));have bf:=ae<|HO.trans bp;have HC2:=ae<|bf.aq HI.cf id;change Code.wp _ _ _ _ ((wr.alloc (.cells lE 37)).setRow wr.heap.size (aP p.m (.slice B1 p.d.length m1)));clear bp Y1 HO;generalize(wr.alloc (.cells lE 37)).setRow wr.heap.size (aP p.m (.slice B1 p.d.length m1))=W9 at *;generalize wr.heap.size=mb at *;have y0:aw W9 mb 0 (p.m.f 0):=nz.af rfl;have y4:aw W9 fI 4 (c.f 4):=HC2.af (aL c _ (i:=4) aD)
        by_cases h3:p.m.f 0=3
        ·have b3:(p.m.f 0==3)=true:=by simpa using h3
         rw[(HPD.out h3).2]at y4;exact mj
        ·have b3:(p.m.f 0==3)=false:=by simpa using h3
         exact mj
       ·obtain rfl:i=T.length:=ao;clear lJ hi;have C8:=ae<|HI.keep HO;have HCP:=aB (((((aQ c 0 hP hk).sp.all N.s).length:Nat):Int)≤c.f 9) (Xs (hP:=hP) (hk:=hk) C8.j.p.j0.ord);go_upto_region 35 with fail;have k0:aw wr.drew fI 9 (c.f 9):=C8.cf.af (aL c _ (i:=9) aD);go_upto_region 35 with fail;refine oa (fun w':World=>aw w' fI 9 (c.f 9)) 6 ?_ ?_
        ·assumption
        intro aH;refine bX [0,3,4,5] ?_;refine cM 1 fun Kc hK=>?_
        go_simp;have wF:=kT (C8.j.p.keep ((ag.aj az wr).drew));rw[GI.out]at wF;refine wF.mono ?_;rintro e V4 ⟨v4,rfl,Az,cI⟩;obtain⟨al,bu⟩:∃al,al=(aQ c 0 hP hk).sp.all N.s:=⟨_,rfl⟩;have Az:aF 3 V4 wr.drew.heap.size v4 al:=by rw[bu];exact Az
        have Aw:=aB (((al.length:Nat):Int)≤c.f 9) (by rw[bu];exact HCP);obtain⟨B4,c4,rfl,hx4,hy4⟩:=Az.shape;have bK:=ae<|((ag.aj az wr).drew).trans cI;have k0:=cI.cell k0 id;clear wF Az cI bu hx4 hy4;refine jS hK ?_ fun aH=>?_
        ·assumption
        clear hK;refine bX [2] ?_;refine cG ?_;clear aH k0;have hle:decide (c.f 9<((al.length:Nat):Int))=false:=decide_eq_false (by have:=Aw.out;omega);have ae9:¬c.f 9<((al.length:Nat):Int):=by have:=Aw.out;omega
        go_wp2
        go_roundw
        case rel=>exact⟨k+1,Z,a9,o,r9,N,E,Dr,bL,by go_num,GI,HRX,C8.keep bK⟩
        case measure=>simp[intOf];have:=bL.out;omega
    ·obtain rfl:k=L.length:=ao;clear aY nO;go_wp2;go_ret;exact⟨rfl,HI.o⟩
  ·exact mg
end
end Go.Proofs.YtchofaecncibjaaGreat

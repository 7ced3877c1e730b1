/- Lemmas. -/
import Derived.Test.YtchofaecncibjaaGreatM45
set_option linter.all false
set_option maxHeartbeats 20000000
set_option maxRecDepth 100000
namespace Go.Proofs.YtchofaecncibjaaGreat
open Go.ChangeShapes Go.RowKit Go.WideShapes
def Ss (c:aM)(hP:cK c)(hk:0<3)(l x fI:Nat)(cv:Value)(n:Nat)(w:World)(iv:Value)(wr:World):Prop:=
 ∃(k:Nat) (Z:ZN) (a:cH (aQ c 0 hP hk)) (o:cJ (aQ c 0 hP hk) c 0) (r:kK) (N:CM (aQ c 0 hP hk).σ) (E:List nP) (Dr:Nat→List Int),k≤n∧iv=ah k∧a.l=l∧r.x=x∧ve Z a o r N E E Dr fI cv k w wr
def Zh (c:aM)(hP:cK c)(hk:0<3)(l x fI:Nat)(cv:Value)(k:Nat)(w:World)(tv:Value)(wx:World):Prop:=
 ∃(Z:ZN) (a:cH (aQ c 0 hP hk)) (o:cJ (aQ c 0 hP hk) c 0) (r:kK) (N:CM (aQ c 0 hP hk).σ) (E:List nP) (Dr:Nat→List Int) (T:List PM),a.l=l∧r.x=x∧ve Z a o r N E E Dr fI cv k w wx∧bg Z wx w.heap.size tv T∧
  ∀p∈T,p.m.f 0=3→CI (cN c) N.S (p.m.f 5)=false∧c.f 4=2
def aaS (n:Nat)(w:World)(iv:Value)(wr:World):Prop:=∃i:Nat,i≤n∧iv=ah i∧ag az w wr
section
theorem fq{P:Prop}(h:P:=by rw[List.length_append];have:=fD.h1;omega):P:=h
theorem rS{P:Prop}(h:P:=by
 have Gf:=ae<|Gt.o.aq gY w8;have NY:=ae<|oo.aA Gt.o fD.j.Md;have Qq:=aB (∀j,aK u9 j→¬tk a9 o r j) (fun j hj e=>e.elim (fun e=>absurd (H9.p.Gg e (EU.aq hj).2.choose_spec) aD) fun e=>by have:=(EU.aq hj).1;have:=fD.j.q.kB e;omega);have eQ:=ae<|zm (wr:=x.wr) H9 fD.p yj GH HC NY;clear y1 y2 y8 y13;have y1:aw W9 ab 1 x.slot:=Gf.af rfl;have y2:aE W9 ab 2 (.bool x.wr):=Gf.af rfl;have y8:aw W9 ab 8 (x.m.f 5):=Gf.af rfl;have y13:aE W9 ab 13 (.slice dA x.d.length dc):=Gf.af rfl;have mF:=aB (a9.l=a.l) (Gt.l);go_wp2_with (go_at_call 14;refine eQ.mono ?_;rintro e ga ⟨u10,r10,abn,rfl,hm,hj,hs⟩;have wO:=ae hj;have aa1:=ae<|Gt.trans hs;have afG:=ae<|(EU.aA hs.o H9.Md Qq).low fD.o.size;clear hm hj hs)
 go_meet
 case rel=>
  have EL:=fD.act nG x;rw[HS.out]at EL;have ti:=we (sp:=(aQ c 0 hP hk).sp) (c:=c) (n:=cN c) fD.p.en x.slot.toNat x.wr (x.m.f 5) x.d;exact⟨Z,a9,o,r10,_,_,abn,_,aa1.l,aa1.x,fD.step (N':=(bB (aQ c 0 hP hk).sp c (cN c) N x.slot.toNat x.wr (x.m.f 5) x.d).wE []) wO aa1 rfl EL fq fq,afG,Jo (M:=N) (n:=cN c) hP fD.j.q.oq _ _ _ _⟩):P:=h
theorem rJ{P:Prop}(h:P:=by
 have DO:=ae<|pX (i:=x.slot) (b:=x.m.f 5) (wr:=x.wr) (A:=dA) (m:=x.d.length) (q:=dc) fD.j.p hc;have hcc:(dJ c N.S x.slot x.wr (x.m.f 5) x.d.length==0)=false:=by simpa using hc
 rw[show(N.wE E).S=N.S from rfl]at DO;generalize dJ c N.S x.slot x.wr (x.m.f 5) x.d.length=code at *;clear hc h0;go_wp2_with (go_at_call 13;refine DO.mono ?_;rintro e W9 ⟨rfl,rfl⟩)
 go_meet
 case rel=>exact⟨Z,a,o,r,N,E,Dr,[],rfl,rfl,fD.mono (Nat.le_succ k),bg.nil _ _ _,fun p hp=>by cases hp⟩):P:=h
theorem mg{P:Prop}(h:P:=by
 have HN:=ae<|wu hP W3 (kx.keep bn);go_wp2_with (first|(refine fH (ak c (.slice A c.h.length m)) dM Tryz.underlying25 ?_)|(go_at_call 11;refine HN.mono ?_;rintro e W4 ⟨rfl,cI⟩;have bK:=ae<|bn.trans cI;clear cI));go_ret;exact⟨rfl,bK⟩):P:=h
theorem rY{P:Prop}(h:P:=by
 clear yn;go_wp2
 go_roundw
 case rel=>exact⟨j+1,HJL,by go_num,bn⟩
 case measure=>simp[intOf];have:=HJL.out;omega):P:=h
theorem mj{P:Prop}(h:P:=by
 clear h3;go_wp2
 go_roundw
 case rel=>exact⟨i+1,JS,by go_num,bf⟩
 case measure=>simp[intOf];have:=JS.out;omega):P:=h
theorem mo{P:Prop}(h:P:=by
 have h3:=dM.lt;rcases hj with hj|hj
 ·have:=Gr.out j hj;omega
 ·have:=nR.out j (.inl hj);have:=iG.lt;omega):P:=h
theorem jy{P:Prop}(h:P:=by rw[List.length_append];have:=fD.h1;have:=UP.out;omega):P:=h
theorem JB (c:aM)(L:List iO)(A B:Option Addr)(m n:Nat)(w:World)(bw:aW w A c.h.length m c.h)(hL:fO w.heap.size w B L.length n L):
 Calls Tryz.prog 3 #[.agg (ak c (.slice A c.h.length m)),.slice B L.length n] w fun e w'=>e= .returned (.bool true)∧ag az w w':=by
 have kx:=ae bw;have HL:=ae hL;have fh:=ae<|Nat.le_trans hL.cap hL.max;have Vs:=ae<|Nat.le_trans bw.cap bw.max;have HB:=ae<|Box.fresh w 25 (ak c (.slice A c.h.length m));have HO:=ae<|(ag.aj az w).alloc (.cells (ak c (.slice A c.h.length m)) 25);clear bw hL
 go_enter Tryz.func3,Tryz.ntmps3
 go_upto_region 1 with fail;change Code.wp _ _ _ _ (w.alloc (.cells (ak c (.slice A c.h.length m)) 25));generalize w.alloc (.cells (ak c (.slice A c.h.length m)) 25)=W1 at *;obtain⟨fI,EP⟩:∃fI,fI=w.heap.size:=⟨_,rfl⟩;rw[←EP]at HB ⊢;have JY:=ae EP;clear EP;go_upto_region 3 with(go_at_call 9;refine(lB W1).mono ?_;rintro e W2 ⟨rfl,bp⟩);have cO:=ae<|bp.aq HB id;have bf:=ae<|HO.trans bp;clear bp HB HO;have GC:=ae<|nx (cf:=c) (A:=A) (m:=m) (HL.keep bf) Vs;go_upto_if 23 with(first|(refine fH (ak c (.slice A c.h.length m)) cO Tryz.underlying25 ?_)|(go_at_call 10;refine GC.mono ?_;rintro e W3 ⟨rfl,cB⟩));have dM:=ae<|cB.aq cO id;have bn:=ae<|bf.trans cB;clear cB cO bf GC
 cases ye:xi c.h.length L with
 |true=>
  clear ye;go_wp2;go_ret;exact⟨rfl,bn⟩
 |false=>
  obtain⟨_,Mn,vA⟩:=tU ye;have Bi:=ae Mn;have oL:=ae vA;clear ye Mn vA
  by_cases hP:cK c
  ·have hk:0<3:=aD;have lK:=ae hP;have HN:=ae<|uv (kp hP hk) hP W3 (kx.keep bn);have Mz:=aB (∀W,ag az w W→Calls Tryz.prog 12 #[.agg (ak c (.slice A c.h.length m))] W (DS (aQ c 0 hP hk) c w.heap.size W)) (fun W ho=>uo hP hk W (kx.keep ho) ho.size);have nG:=ae<|o8 (hP:=hP) (hk:=hk);go_upto_region 8 with(first|(refine fH (ak c (.slice A c.h.length m)) dM Tryz.underlying25 ?_)|(go_at_call 11;refine HN.mono ?_;rintro e W4 ⟨i0,l0,Mq,Mg,u0,g0,Mp,Me,uM,wQ,rfl,h1,h2,h3,h4,h5,h6,h7,h8,h9,ha,hb,hc,hd,he,hf,ho⟩;have wN:=ae<|iq (km hP hk) (B:=w.heap.size) bn.size h1 h2 h3 h4 h5 h6 h7 ⟨h8,h9,ha,hb,hc,hd,he,hf⟩;have Gr:=aB (∀k,b6 (⟨i0,l0,Mq,Mg,u0,g0,Mp,Me,uM,wQ,aJ,fun _=>aJ,fun _=>none⟩:cH (aQ c 0 hP hk)) k→W3.heap.size≤k) ((iq (km hP hk) (B:=W3.heap.size) (dm _) h1 h2 h3 h4 h5 h6 h7 ⟨h8,h9,ha,hb,hc,hd,he,hf⟩).lo);have bK:=ae<|bn.trans ho;have iM:=ae<|ho.aq dM id;clear h1 h2 h3 h4 h5 h6 h7 h8 h9 ha hb hc hd he hf ho));have iG:=iM;have E3:=wN;have bM:=bK;clear iM wN bK;generalize W4=W5 at *;have w7:=ae<|Mz W5 bM;generalize zC:(⟨i0,l0,Mq,Mg,u0,g0,Mp,Me,uM,wQ,aJ,fun _=>aJ,fun _=>none⟩:cH (aQ c 0 hP hk))=a0 at *;obtain rfl:l0=a0.l:=by rw[←zC]
   clear zC HN Mz;go_upto_region 9 with(first|(refine fH (ak c (.slice A c.h.length m)) iG Tryz.underlying25 ?_)|(go_at_call 12;refine w7.mono ?_;rintro e W6 ⟨o0,r0,rfl,h1,h2,h3⟩;have Mv:=ae h1;have nR:=ae h2;have cZ:=ae h3;clear h1 h2 h3));have C9:=ae (show ve ⟨w.heap.size,ke o0 r0.r⟩ a0 o0 r0 (m0 (aQ c 0 hP hk)) [] [] (fun _=>[]) fI (.slice A c.h.length m) 0 w W6 from
    {j:=LJ.start (M:=m0 (aQ c 0 hP hk)) (M2:=m0 (aQ c 0 hP hk)) E3 Mv cZ nR
     B:=rfl
     p:=⟨rfl,fun j hj h=>absurd rfl h,dm _,by show(aQ c 0 hP hk).sp.eE (aQ c 0 hP hk).s0≤0;rw[nG.out];exact dm _⟩
     h1:=Nat.le_refl _
     h2:=Nat.le_refl _
     fr:=fun j hj e=>by
      exact mo
     cf:=cZ.aq iG id
     o:=bM.trans cZ})
   clear dM bn iG E3 bM w7 Gr Mv nR cZ;go_upto_region 10 with fail;obtain⟨l0,hl0⟩:∃l0,l0=a0.l:=⟨_,rfl⟩;obtain⟨x0,th⟩:∃x0,x0=r0.x:=⟨_,rfl⟩;rw[←hl0,←th]
   go_loopw [35] (fun iv wr=>Ss c hP hk l0 x0 fI (.slice A c.h.length m) L.length w iv wr) (fun iv _=>L.length - (intOf iv).toNat)
   case atStart=>exact⟨0,_,a0,o0,r0,_,[],_,dT _,rfl,hl0.symm,th.symm,C9⟩
   case round=>
    clear C9;obtain⟨k,Z,a,o,r,N,E,Dr,nO,rfl,bu,CX,hI⟩:=hrel;clear hl0 th;subst bu CX;have HI:=ae hI;clear hI
    by_cases aY:k<L.length
    ·obtain⟨g,og,dv,rfl,hg,jU,hdd⟩:=HL.ed HI.o HI.B aY;have nS:=oL.out k aY;have iV:(k:Int)<L.length:=ao;have Fk:(k:Int)<1000:=by have:=Bi.out;omega
     have bL:=ae aY;have yj:=ae (show k≤1000 by omega);have GH:=ae (show E.length≤1000 by have:=HI.h1;omega);have xl:=ae nS;have wM:=ae jU;have yA:=ae hdd;clear jU aY nO nS hdd;generalize L.getD k default=x at *;obtain⟨dA,dc,rfl⟩:=yA.shape;have Mt:=aB (∀j v,(bV x (.slice dA x.d.length dc)).toList[j]? =some v→aE wr g (og+k*14+j) v) (fun j v hj=>wM j v (by rw[←Array.getElem?_toList];exact hj));go_upto_region 13 with(first|(refine wpList_load_mid rfl 39 _ rfl g (og+k*14) rfl (bV x (.slice dA x.d.length dc)).toList _ Mt Tryz.underlying39 rfl bZ ?_)|(refine fJ (bV x (.slice dA x.d.length dc)) (Box.fresh wr 39 lM) (tX _ _ _ _) ?_));have bT:ag az wr ((wr.alloc (.cells lM 39)).setRow wr.heap.size (bV x (.slice dA x.d.length dc))):=((ag.aj az wr).alloc _).au (.inr (dm _)) _;have gY:=ae<|(Box.fresh wr 39 lM).au (bV x (.slice dA x.d.length dc));have w8:=aB (¬tk a o r wr.heap.size) (fun e=>by have:=HI.j.kB e;omega);have fD:=ae<|HI.keep bT;have oo:=ae<|yA.keep bT;change Code.wp _ _ _ _ ((wr.alloc (.cells lM 39)).setRow wr.heap.size (bV x (.slice dA x.d.length dc)));clear bT HI yA wM Mt;generalize(wr.alloc (.cells lM 39)).setRow wr.heap.size (bV x (.slice dA x.d.length dc))=W8 at *;generalize wr.heap.size=ab at *;have y0:aw W8 ab 0 x.kind:=gY.af rfl
     go_upto_block 2 with fail
     clear y0
     go_cut [10] (fun tv wx=>Zh c hP hk a.l r.x fI (.slice A c.h.length m) (k+1) w tv wx)
     case first=>
      by_cases h0:x.kind=0
      ·have bk0:(x.kind==0)=true:=by simpa using h0
       have bk1:(x.kind==1)=false:=by rw[h0];rfl
       have bk4:(x.kind==4)=false:=by rw[h0];rfl
       have y1:aw W8 ab 1 x.slot:=gY.af rfl;have y2:aE W8 ab 2 (.bool x.wr):=gY.af rfl;have y8:aw W8 ab 8 (x.m.f 5):=gY.af rfl;have y13:aE W8 ab 13 (.slice dA x.d.length dc):=gY.af rfl
       by_cases hc:dJ c N.S x.slot x.wr (x.m.f 5) x.d.length=0
       ·have hs:lI (aQ c 0 hP hk) c N x=bB (aQ c 0 hP hk).sp c (cN c) N x.slot.toNat x.wr (x.m.f 5) x.d:=by unfold lI;rw[if_pos h0,if_pos hc]
        have DO:=ae<|uF (wr:=x.wr) fD.j fD.p yj GH hc oo;have HC:=ae hc;have HS:=ae hs;clear hc hs h0;go_upto_region 19 with(go_at_call 13;refine DO.mono ?_;rintro e W9 ⟨u9,a9,rfl,hm,hj,hs⟩;have EU:=ae hm;have H9:=ae hj;have Gt:=ae hs;clear hm hj hs);exact rS
       ·exact rJ
      by_cases h1:x.kind=1∨x.kind=4
      ·have y0:aw W8 ab 0 x.kind:=gY.af rfl;have hs:lI (aQ c 0 hP hk) c N x=bd (aQ c 0 hP hk).sp c (cN c) N (nH (cN c) N.S x).m (nH (cN c) N.S x).d:=by unfold lI;rw[if_neg ao,if_pos h1]
       have HS:=ae hs;have hh:=zr (a:=x) fD.j.q oo;rw[show(N.wE E).S=N.S from rfl]at hh;have HH:=ae hh;have YA:=ae<|fD.act nG x;rw[HS.out]at YA;clear hh hs HS;generalize nH (cN c) N.S x=pm at *;have key:∃b1 b4:Bool,(x.kind==0)=false∧(x.kind==1)=b1∧(x.kind==4)=b4∧(b1=true∨(b1=false∧b4=true)):=by
        exact mc
       clear h1;obtain⟨b1,b4,q0,q1,q4,qq⟩:=key;have UP:=ae<|zk (sp:=(aQ c 0 hP hk).sp) (c:=c) (n:=cN c) fD.p.en pm.m pm.d;rcases qq with rfl|⟨rfl,rfl⟩
       all_goals
        go_upto_region 23 with(first|(refine fH (bV x (.slice dA x.d.length dc)) gY Tryz.underlying39 ?_)|(go_at_call 15;refine HH.mono ?_;rintro e W1 ⟨A1,q1,rfl,F7,aR⟩;have jL:=ae F7;have aX:=ae aR;have H1:=ae<|fD.keep aR;clear F7 aR)|(refine fJ (aP pm.m (.slice A1 pm.d.length q1)) (Box.fresh W1 37 lE) (lz _ _ _ _) ?_));have bp:ag az W1 ((W1.alloc (.cells lE 37)).setRow W1.heap.size (aP pm.m (.slice A1 pm.d.length q1))):=((ag.aj az W1).alloc _).au (.inr (dm _)) _;have nz:=ae<|(Box.fresh W1 37 lE).au (aP pm.m (.slice A1 pm.d.length q1));have H2:=ae<|H1.keep bp;have tA:=ae<|jL.keep bp;have fh:=aB (¬tk a o r W1.heap.size) (fun e=>by have:=H1.j.kB e;omega);change Code.wp _ _ _ _ ((W1.alloc (.cells lE 37)).setRow W1.heap.size (aP pm.m (.slice A1 pm.d.length q1)));clear bp H1 jL aX oo HH y0;generalize(W1.alloc (.cells lE 37)).setRow W1.heap.size (aP pm.m (.slice A1 pm.d.length q1))=W2 at *;generalize W1.heap.size=mb at *;have YI:=ae<|B0 (m:=pm.m) H2.j H2.j.q.rg H2.p yj GH tA;go_upto_region 24 with(first|(refine fH (aP pm.m (.slice A1 pm.d.length q1)) nz Tryz.underlying37 ?_)|(go_at_call 16;refine YI.mono ?_;rintro e W3 ⟨u3,a3,rfl,hm,hj,hs⟩;have Qr:=ae hm;have H3:=ae hj;have AF:=ae hs;have oG:=ae<|hs.o.aq nz fh;have tf:=ae<|tA.aA hs.o H2.j.Md;have aa5:=aB (¬tk a3 o r mb) (fun e=>(hs.W mb e).elim fh fun e=>by have:=nz.lt;omega);have Qq:=aB (∀k,aK u3 k→¬tk a3 o r k) (fun k hk e=>e.elim (fun e=>absurd (hj.p.Gg e (hm.aq hk).2.choose_spec) aD) fun e=>by have:=(hm.aq hk).1;have:=H2.j.q.kB e;omega);clear hm hj hs));have HRH:=ae<|BZ (m:=pm.m) H3 H2.p yj GH tf;have mF:=aB (a3.l=a.l) (AF.l);go_wp2_with (first|(refine fH (aP pm.m (.slice A1 pm.d.length q1)) oG Tryz.underlying37 ?_)|(go_at_call 17;refine HRH.mono ?_;rintro e W4 ⟨u4,r4,YL,rfl,hm,hj,hs⟩;have H4:=ae hj;have Gu:=ae<|AF.trans hs;have Vo:=ae<|(Qr.aA hs.o H3.Md Qq).low H2.o.size;clear hm hj hs))
        go_meet
        case rel=>exact⟨Z,a3,o,r4,(bd (aQ c 0 hP hk).sp c (cN c) N pm.m pm.d).wE [],_,YL,_,Gu.l,Gu.x,H2.step (N':=(bd (aQ c 0 hP hk).sp c (cN c) N pm.m pm.d).wE []) H4 Gu rfl YA jy jy,Vo,Cr hP _ _⟩
      ·have y0:aw W8 ab 0 x.kind:=gY.af rfl;have b0:(x.kind==0)=false:=by simpa using h0
       have b1:(x.kind==1)=false:=by simpa using (fun e=>h1 (.inl e):¬x.kind=1)
       have b4:(x.kind==4)=false:=by simpa using (fun e=>h1 (.inr e):¬x.kind=4)
       have JV:=ae<|xu (x:=x) fD.j fD.p yj GH GH oo (by have:=xl.out;omega);clear h0 h1;go_wp2_with (first|(refine fH (bV x (.slice dA x.d.length dc)) gY Tryz.underlying39 ?_)|(go_at_call 18;refine JV.mono ?_;rintro e W9 ⟨Z9,a9,o9,r9,YK,rfl,Yr,Yh,CL⟩))
       go_meet
       case rel=>
        have ti:=BN (K:=(aQ c 0 hP hk)) (c:=c) fD.p.en x;exact⟨Z9,a9,o9,r9,_,_,YK,[],CL.l,CL.x,fD.step (N':=(lI (aQ c 0 hP hk) c N x).wE []) Yh CL Yr (fD.act nG x) fq fq,bg.nil _ _ _,fun p hp=>by cases hp⟩
     case rest=>
      clear fD gY oo w8;obtain⟨Z,a9,o,r9,N,E,Dr,T,bu,CX,hI,hT,Rs⟩:=hcut;have HI:=ae hI;have HT:=ae hT;have HDM:=ae Rs;have GI:=ae bu;have HRX:=ae CX;clear hI hT Rs bu CX;obtain⟨TA,tc,rfl,_,J3⟩:=id HT.shape;have htx:T.length≤9223372036854775807:=by unfold maxLen at J3;omega
      obtain⟨W8,e8⟩:∃W8,W8=wc:=⟨_,rfl⟩;subst e8;clear J3;go_upto_region 26 with fail
      go_loopw [92] (fun iv wr=>aaS T.length W8 iv wr) (fun iv _=>T.length - (intOf iv).toNat)
      case atStart=>exact⟨0,dT _,rfl,ag.aj _ _⟩
      case round=>
       obtain⟨i,hi,rfl,ho⟩:=hrel;have HO:=ae ho;clear ho
       by_cases lJ:i<T.length
       ·obtain⟨g1,cp1,B1,m1,e1,y1,d1⟩:=(HT.keep HO).at_ lJ;injection e1 with e1 _ e3;subst e1 e3;have UC:(i:Int)<T.length:=ao;have JS:=ae lJ;have HPD:=ae<|HDM (T.getD i Gj) (by rw[List.getD_eq_getElem?_getD,List.getElem?_eq_getElem lJ];exact List.getElem_mem lJ);generalize T.getD i Gj=p at *;have Y1:=aB (∀j v,(aP p.m (.slice B1 p.d.length m1)).toList[j]? =some v→aE wr g1 (i*11+j) v) (fun j v hj=>y1 j v (by rw[←Array.getElem?_toList];exact hj));clear y1 d1 lJ hi;go_upto_region 28 with(first|(refine wpList_load_mid rfl 37 _ rfl g1 (i*11) rfl (aP p.m (.slice B1 p.d.length m1)).toList _ Y1.out Tryz.underlying37 rfl bZ ?_)|(refine fJ (aP p.m (.slice B1 p.d.length m1)) (Box.fresh wr 37 lE) (lz _ _ _ _) ?_));have bp:ag az wr ((wr.alloc (.cells lE 37)).setRow wr.heap.size (aP p.m (.slice B1 p.d.length m1))):=((ag.aj az wr).alloc _).au (.inr (dm _)) _;have nz:=ae<|(Box.fresh wr 37 lE).au (aP p.m (.slice B1 p.d.length m1));have bf:=ae<|HO.trans bp;change Code.wp _ _ _ _ ((wr.alloc (.cells lE 37)).setRow wr.heap.size (aP p.m (.slice B1 p.d.length m1)));clear bp Y1 HO;generalize(wr.alloc (.cells lE 37)).setRow wr.heap.size (aP p.m (.slice B1 p.d.length m1))=W9 at *;generalize wr.heap.size=mb at *;have y0:aw W9 mb 0 (p.m.f 0):=nz.af rfl
        by_cases h3:p.m.f 0=3
        ·have b3:(p.m.f 0 != 3)=false:=by simpa using h3
         have Vz:=ae (HPD h3).1;have C8:=ae<|HI.keep bf;have jZ:aE W9 r.x 19 (aU r9.a8 (cN c) (cN c)):=by rw[←HRX.out];exact C8.j.q.pw
         have mX:cN c≤4:=C8.j.q.nn.2.1;clear h3;go_upto_region 30 with fail;clear y0 jZ
         go_loopw [104] (fun iv wr=>aaS (cN c) W9 iv wr) (fun iv _=>cN c - (intOf iv).toNat)
         case atStart=>exact⟨0,dT _,rfl,ag.aj _ _⟩
         case round=>
          obtain⟨j,hj,rfl,ho⟩:=hrel;have HOJ:=ae ho;clear ho
          by_cases J5:j<cN c
          ·have HIW:=ae<|C8.keep HOJ;obtain⟨Ad,nd,md,eD⟩:=HIW.j.q.DD j J5;obtain⟨z0,z1,z2,z3,z4⟩:=bJ HIW.j.q.slots J5 eD;change aw wr r9.a8 (j*5) ((N.S j).op)at z0;change aw wr r9.a8 (j*5+1) ((N.S j).blk)at z1;change aw wr r9.a8 (j*5+2) ((N.S j).lev)at z2;change aE wr r9.a8 (j*5+3) (.bool (N.S j).wr)at z3;have A0:(j:Int)<cN c:=ao;have HJL:=ae J5;have yr:=aB (¬((N.S j).op≠0∧(N.S j).blk=p.m.f 5)) (fun e=>by have:=FD J5 e.1 e.2;rw[Vz.out]at this;cases this);generalize vy:N.S j=s at *;have HRJ:=aB (∀q v,[Value.int .i64 s.op,ah s.blk,ah s.lev,.bool s.wr,.slice Ad nd md][q]? =some v→aE wr r9.a8 (j*5+q) v) (fun q v hq=>by
            match q,hq with
            |0,h=>injection h with h;subst h;exact z0
            |1,h=>injection h with h;subst h;exact z1
            |2,h=>injection h with h;subst h;exact z2
            |3,h=>injection h with h;subst h;exact z3
            |4,h=>injection h with h;subst h;exact z4)
           clear z0 z1 z2 z3 z4 eD J5 hj vy;go_upto_region 32 with(first|(refine wpList_load_mid rfl 54 _ rfl r9.a8 (j*5) rfl [Value.int .i64 s.op,ah s.blk,ah s.lev,.bool s.wr,.slice Ad nd md] _ HRJ Tryz.underlying54 rfl bZ ?_)|(refine fJ #[Value.int .i64 s.op,ah s.blk,ah s.lev,.bool s.wr,.slice Ad nd md] (Box.fresh wr 54 jY) a6 ?_));have cB:ag az wr ((wr.alloc (.cells jY 54)).setRow wr.heap.size #[Value.int .i64 s.op,ah s.blk,ah s.lev,.bool s.wr,.slice Ad nd md]):=((ag.aj az wr).alloc _).au (.inr (dm _)) _;have AF:=ae<|(Box.fresh wr 54 jY).au #[Value.int .i64 s.op,ah s.blk,ah s.lev,.bool s.wr,.slice Ad nd md];have bn:=ae<|HOJ.trans cB;have oG:=ae<|bn.aq nz id;change Code.wp _ _ _ _ ((wr.alloc (.cells jY 54)).setRow wr.heap.size #[Value.int .i64 s.op,ah s.blk,ah s.lev,.bool s.wr,.slice Ad nd md]);clear cB HRJ HOJ HIW;generalize(wr.alloc (.cells jY 54)).setRow wr.heap.size #[Value.int .i64 s.op,ah s.blk,ah s.lev,.bool s.wr,.slice Ad nd md]=ga at *;generalize wr.heap.size=sb at *;have t0:aw ga sb 0 s.op:=AF.af rfl;have t1:aw ga sb 1 s.blk:=AF.af rfl;have u5:aw ga mb 5 (p.m.f 5):=oG.af rfl
           by_cases yn:s.op=0
           ·have bo:(s.op != 0)=false:=by simpa using yn
            exact rY
           ·have bo:(s.op != 0)=true:=by simpa using yn
            have bb:(s.blk==p.m.f 5)=false:=by
             have:¬s.blk=p.m.f 5:=fun e=>yr ⟨yn,e⟩
             simpa using this
            exact rY
          ·obtain rfl:j=cN c:=ao;clear J5 hj;go_wp2
           go_roundw
           case rel=>exact⟨i+1,JS,by go_num,bf.trans HOJ⟩
           case measure=>simp[intOf];have:=JS.out;omega
        ·have b3:(p.m.f 0 != 3)=true:=by simpa using h3
         exact mj
       ·obtain rfl:i=T.length:=ao;clear lJ hi;go_wp2
        go_roundw
        case rel=>exact⟨k+1,Z,a9,o,r9,N,E,Dr,bL,by go_num,GI,HRX,HI.keep HO⟩
        case measure=>simp[intOf];have:=bL.out;omega
    ·obtain rfl:k=L.length:=ao;clear aY nO;go_wp2;go_ret;exact⟨rfl,HI.o⟩
  ·exact mg
end
end Go.Proofs.YtchofaecncibjaaGreat

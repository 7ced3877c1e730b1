/- Lemmas. -/
import Derived.Test.YtchofaecncibjaaGreatM45
import Derived.Test.YtchofaecncibjaaGreatM48
set_option linter.all false
set_option maxHeartbeats 20000000
set_option maxRecDepth 100000
namespace Go.Proofs.YtchofaecncibjaaGreat
open Go.ChangeShapes Go.RowKit Go.WideShapes
theorem aag:Tryz.prog.underlying 55=some (.map 3 3):=Tryz.underlying55
section
variable {c:aM}{hP:cK c}{hk:0<3}{Z:ZN}{w wr w2:World}{a a':cH (aQ c 0 hP hk)}{o o':cJ (aQ c 0 hP hk) c 0}{r r':kK}{N:CM (aQ c 0 hP hk).σ}{Dr:Nat→List Int}{e1 e2:List nP}{k fI mb:Nat}{cv:Value}{F:Int→Option Value}
structure NQ (a:cH (aQ c 0 hP hk))(o:cJ (aQ c 0 hP hk) c 0)(r:kK)(mb:Nat)(F:Int→Option Value)(w wr:World):Prop where
 m:ij wr mb F
 n:∀j,LjX a o r j→j≠mb
 b:w.heap.size≤mb
theorem NQ.keep (h:NQ a o r mb F w wr)(ho:ag az wr w2):NQ a o r mb F w w2:=⟨h.m.keep ho,h.n,h.b⟩
theorem tk.toX {j:Nat}(h:tk a o r j):LjX a o r j:=h.elim (fun e=>.inl (.inl e)) fun e=>.inr (.inl e)
theorem NQ.step (h:NQ a o r mb F w wr)(hs:zD a o r a' o' r' wr w2):NQ a' o' r' mb F w w2:=⟨h.m.aA hs.o fun e=>h.n mb e.toX rfl,fun j hj=>(hs.X j hj).elim (fun e=>h.n j e) fun e=>by have:=h.m.lt;omega,h.b⟩
theorem ve.map (h:ve Z a o r N e1 e2 Dr fI cv k w wr)(hm:NQ a o r mb F w wr)(ho:ag (ar mb) wr w2):ve Z a o r N e1 e2 Dr fI cv k w w2 where
 j:=h.j.mH ho (fun j _ e=>by rw[show j=mb from e];exact⟨by rw[h.B];exact hm.b,.inr fun cs hb=>hm.m.ne hb rfl⟩) (fun j hj e=>hm.n j hj e) fun j t cs e hb=>hm.m.ne hb e
 B:=h.B
 p:=h.p
 h1:=h.h1
 h2:=h.h2
 fr:=h.fr
 cf:=ho.aq h.cf fun e=>hm.m.ne h.cf e
 o:=h.o.aC ho fun j hj=>.inr (by rw[show j=mb from hj];exact hm.b)
end
def aen (c:aM)(hP:cK c)(hk:0<3)(l x fI mb:Nat)(cv:Value)(n:Nat)(w:World)(iv:Value)(wr:World):Prop:=
 ∃(k:Nat) (Z:ZN) (a:cH (aQ c 0 hP hk)) (o:cJ (aQ c 0 hP hk) c 0) (r:kK) (N:CM (aQ c 0 hP hk).σ) (e2:List nP) (Dr:Nat→List Int) (F:Int→Option Value),k≤n∧iv=ah k∧a.l=l∧r.x=x∧ve Z a o r N [] e2 Dr fI cv k w wr∧NQ a o r mb F w wr∧wX c N.S N.ops F
def aeo (c:aM)(hP:cK c)(hk:0<3)(l x fI mb:Nat)(cv:Value)(k:Nat)(w wx:World):Prop:=
 ∃(Z:ZN) (a:cH (aQ c 0 hP hk)) (o:cJ (aQ c 0 hP hk) c 0) (r:kK) (N:CM (aQ c 0 hP hk).σ) (E e2:List nP) (Dr:Nat→List Int) (F:Int→Option Value),a.l=l∧r.x=x∧ve Z a o r N E e2 Dr fI cv k w wx∧NQ a o r mb F w wx∧RD c N.S N.ops E F
def afv (c:aM)(S:Nat→kY)(ops:Nat)(E:List nP)(F:Int→Option Value)(mb:Nat)(w:World)(iv:Value)(wr:World):Prop:=
 ∃(i:Nat) (G:Int→Option Value),i≤E.length∧iv=ah i∧ij wr mb G∧(i=0→G=F)∧(i=E.length→wX c S ops G)∧ag (ar mb) w wr
def zRe:Array Value:=#[ah 0,ah 0,.bool false,ah 0,aJ]
section
theorem LY (c:aM)(L:List iO)(A B:Option Addr)(m n:Nat)(w:World)(bw:aW w A c.h.length m c.h)(hL:fO w.heap.size w B L.length n L):
 Calls Tryz.prog 4 #[.agg (ak c (.slice A c.h.length m)),.slice B L.length n] w fun e w'=>e= .returned (.bool true)∧ag az w w':=by
 have kx:=ae bw;have HL:=ae hL;have fh:=ae<|Nat.le_trans hL.cap hL.max;have Vs:=ae<|Nat.le_trans bw.cap bw.max;have HB:=ae<|Box.fresh w 25 (ak c (.slice A c.h.length m));have HO:=ae<|(ag.aj az w).alloc (.cells (ak c (.slice A c.h.length m)) 25);clear bw hL
 go_enter Tryz.func4,Tryz.ntmps4
 go_upto_region 1 with fail;change Code.wp _ _ _ _ (w.alloc (.cells (ak c (.slice A c.h.length m)) 25));generalize w.alloc (.cells (ak c (.slice A c.h.length m)) 25)=W1 at *;obtain⟨fI,EP⟩:∃fI,fI=w.heap.size:=⟨_,rfl⟩;rw[←EP]at HB ⊢;have JY:=ae EP;clear EP;go_upto_region 3 with(go_at_call 9;refine(lB W1).mono ?_;rintro e W2 ⟨rfl,bp⟩);have cO:=ae<|bp.aq HB id;have bf:=ae<|HO.trans bp;clear bp HB HO;have GC:=ae<|nx (cf:=c) (A:=A) (m:=m) (HL.keep bf) Vs;go_upto_if 22 with(first|(refine fH (ak c (.slice A c.h.length m)) cO Tryz.underlying25 ?_)|(go_at_call 10;refine GC.mono ?_;rintro e W3 ⟨rfl,cB⟩));have dM:=ae<|cB.aq cO id;have bn:=ae<|bf.trans cB;clear cB cO bf GC
 cases ye:xi c.h.length L with
 |true=>
  clear ye;go_wp2;go_ret;exact⟨rfl,bn⟩
 |false=>
  obtain⟨_,Mn,vA⟩:=tU ye;have Bi:=ae Mn;have oL:=ae vA;clear ye Mn vA
  by_cases hP:cK c
  ·have hk:0<3:=aD;have lK:=ae hP;have HN:=ae<|uv (kp hP hk) hP W3 (kx.keep bn);have Mz:=aB (∀W,ag az w W→Calls Tryz.prog 12 #[.agg (ak c (.slice A c.h.length m))] W (DS (aQ c 0 hP hk) c w.heap.size W)) (fun W ho=>uo hP hk W (kx.keep ho) ho.size);have nG:=ae<|o8 (hP:=hP) (hk:=hk);go_upto_region 8 with(first|(refine fH (ak c (.slice A c.h.length m)) dM Tryz.underlying25 ?_)|(go_at_call 11;refine HN.mono ?_;rintro e W4 ⟨i0,l0,Mq,Mg,u0,g0,Mp,Me,uM,wQ,rfl,h1,h2,h3,h4,h5,h6,h7,h8,h9,ha,hb,hc,hd,he,hf,ho⟩;have wN:=ae<|iq (km hP hk) (B:=w.heap.size) bn.size h1 h2 h3 h4 h5 h6 h7 ⟨h8,h9,ha,hb,hc,hd,he,hf⟩;have Gr:=aB (∀k,b6 (⟨i0,l0,Mq,Mg,u0,g0,Mp,Me,uM,wQ,aJ,fun _=>aJ,fun _=>none⟩:cH (aQ c 0 hP hk)) k→W3.heap.size≤k) ((iq (km hP hk) (B:=W3.heap.size) (dm _) h1 h2 h3 h4 h5 h6 h7 ⟨h8,h9,ha,hb,hc,hd,he,hf⟩).lo);have bK:=ae<|bn.trans ho;have iM:=ae<|ho.aq dM id;clear h1 h2 h3 h4 h5 h6 h7 h8 h9 ha hb hc hd he hf ho));have iG:=iM;have E3:=wN;have bM:=bK;clear iM wN bK;generalize W4=W5 at *;have w7:=ae<|Mz W5 bM;generalize zC:(⟨i0,l0,Mq,Mg,u0,g0,Mp,Me,uM,wQ,aJ,fun _=>aJ,fun _=>none⟩:cH (aQ c 0 hP hk))=a0 at *;obtain rfl:l0=a0.l:=by rw[←zC]
   clear zC HN Mz;go_upto_region 9 with(first|(refine fH (ak c (.slice A c.h.length m)) iG Tryz.underlying25 ?_)|(go_at_call 12;refine w7.mono ?_;rintro e W6 ⟨o0,r0,rfl,h1,h2,h3⟩;have Mv:=ae h1;have nR:=ae h2;have cZ:=ae h3;clear h1 h2 h3));have C9:=ae (show ve ⟨w.heap.size,ke o0 r0.r⟩ a0 o0 r0 (m0 (aQ c 0 hP hk)) [] [] (fun _=>[]) fI (.slice A c.h.length m) 0 w W6 from
    {j:=LJ.start (M:=m0 (aQ c 0 hP hk)) (M2:=m0 (aQ c 0 hP hk)) E3 Mv cZ nR
     B:=rfl
     p:=⟨rfl,fun j hj h=>absurd rfl h,dm _,by show(aQ c 0 hP hk).sp.eE (aQ c 0 hP hk).s0≤0;rw[nG.out];exact dm _⟩
     h1:=Nat.le_refl _
     h2:=Nat.le_refl _
     fr:=fun j hj e=>by
      have h3:=dM.lt;rcases hj with hj|hj
      ·have:=Gr.out j hj;omega
      ·have:=nR.out j (.inl hj);have:=iG.lt;omega
     cf:=cZ.aq iG id
     o:=bM.trans cZ})
   clear dM bn iG E3 bM w7 Gr Mv nR cZ;have uW:= @run_makeMap Tryz.prog;go_upto_region 10 with fail;have Rc:=ae<|C9.keep ((ag.aj az W6).alloc (.map #[] 0));have NV:=aB (NQ a0 o0 r0 W6.heap.size (fun _=>none) w (W6.alloc (.map #[] 0))) (⟨ij.made W6,fun j hj e=>by have:=C9.j.uU hj;omega,C9.o.size⟩);change Code.wp _ _ _ _ (W6.alloc (.map #[] 0));clear uW C9;generalize W6.alloc (.map #[] 0)=W7 at *;generalize W6.heap.size=mb at *;go_upto_region 11 with fail;obtain⟨l0,hl0⟩:∃l0,l0=a0.l:=⟨_,rfl⟩;obtain⟨x0,th⟩:∃x0,x0=r0.x:=⟨_,rfl⟩;rw[←hl0,←th]
   go_loopw [35] (fun iv wr=>aen c hP hk l0 x0 fI mb (.slice A c.h.length m) L.length w iv wr) (fun iv _=>L.length - (intOf iv).toNat)
   case atStart=>exact⟨0,_,a0,o0,r0,_,[],_,_,dT _,rfl,hl0.symm,th.symm,Rc,NV,wX.start⟩
   case round=>
    clear Rc NV;obtain⟨k,Z,a,o,r,N,e2,Dr,F,nO,rfl,bu,CX,hI,hM,hO⟩:=hrel;clear hl0 th;subst bu CX;have HI:=ae hI;have HM:=ae hM;have My:=ae hO;clear hI hM hO
    by_cases aY:k<L.length
    ·obtain⟨g,og,dv,rfl,hg,jU,hdd⟩:=HL.ed HI.o HI.B aY;have nS:=oL.out k aY;have iV:(k:Int)<L.length:=ao;have Fk:(k:Int)<1000:=by have:=Bi.out;omega
     have bL:=ae aY;have yj:=ae (show k≤1000 by omega);have lH:=aB (([]:List nP).length≤1000) (dT _);have yz:=ae (show e2.length≤1000 by have:=HI.h2;omega);have xl:=ae nS;have wM:=ae jU;have yA:=ae hdd;clear jU aY nO nS hdd;generalize L.getD k default=x at *;obtain⟨dA,dc,rfl⟩:=yA.shape;have HMW:=aB (mb<wr.heap.size) (HM.m.lt);have Mt:=aB (∀j v,(bV x (.slice dA x.d.length dc)).toList[j]? =some v→aE wr g (og+k*14+j) v) (fun j v hj=>wM j v (by rw[←Array.getElem?_toList];exact hj));go_upto_region 13 with(first|(refine wpList_load_mid rfl 39 _ rfl g (og+k*14) rfl (bV x (.slice dA x.d.length dc)).toList _ Mt Tryz.underlying39 rfl bZ ?_)|(refine fJ (bV x (.slice dA x.d.length dc)) (Box.fresh wr 39 lM) (tX _ _ _ _) ?_));have bT:ag az wr ((wr.alloc (.cells lM 39)).setRow wr.heap.size (bV x (.slice dA x.d.length dc))):=((ag.aj az wr).alloc _).au (.inr (dm _)) _;have gY:=ae<|(Box.fresh wr 39 lM).au (bV x (.slice dA x.d.length dc));have w8:=aB (¬tk a o r wr.heap.size) (fun e=>by have:=HI.j.kB e;omega);have fD:=ae<|HI.keep bT;have oo:=ae<|yA.keep bT;change Code.wp _ _ _ _ ((wr.alloc (.cells lM 39)).setRow wr.heap.size (bV x (.slice dA x.d.length dc)));have Gv:=ae bT;clear bT HI yA wM Mt;generalize(wr.alloc (.cells lM 39)).setRow wr.heap.size (bV x (.slice dA x.d.length dc))=W8 at *;generalize wr.heap.size=ab at *;have Qy:=aB (NQ a o r mb F w W8) (⟨HM.m.keep Gv,HM.n,HM.b⟩);have HAM:=aB (ab≠mb) (Qy.m.ne gY);clear HM Gv;have y0:aw W8 ab 0 x.kind:=gY.af rfl;go_upto_if 41 with fail
     go_cut [] (fun wx=>aeo c hP hk a.l r.x fI mb (.slice A c.h.length m) (k+1) w wx)
     case first=>
      by_cases h0:x.kind=0
      ·have bk0:(x.kind==0)=true:=by simpa using h0
       have y1:aw W8 ab 1 x.slot:=gY.af rfl;have y2:aE W8 ab 2 (.bool x.wr):=gY.af rfl;have y8:aw W8 ab 8 (x.m.f 5):=gY.af rfl;have y13:aE W8 ab 13 (.slice dA x.d.length dc):=gY.af rfl
       by_cases hc:dJ c N.S x.slot x.wr (x.m.f 5) x.d.length=0
       ·have hs:lI (aQ c 0 hP hk) c N x=bB (aQ c 0 hP hk).sp c (cN c) N x.slot.toNat x.wr (x.m.f 5) x.d:=by unfold lI;rw[if_pos h0,if_pos hc]
        have DO:=ae<|uF (wr:=x.wr) fD.j fD.p yj lH hc oo;have CT:=ae<|My.begin hP fD.p.en hc;have HC:=ae hc;have HS:=ae hs;obtain⟨OP,Qm⟩:∃OP:Int,OP=((N.ops+1:Nat):Int):=⟨_,rfl⟩;rw[←Qm]at DO CT;have afQ:=ae (show DG OP by have:=fD.p.ops;have:=yj.out;unfold DG;omega);clear hc hs h0 Qm;go_upto_region 16 with(go_at_call 13;refine DO.mono ?_;rintro e W9 ⟨u9,a9,rfl,hm,hj,hs⟩;have H9:=ae hj;have Gt:=ae hs;clear hm hj hs);have Gf:=ae<|Gt.o.aq gY w8;have NY:=ae<|oo.aA Gt.o fD.j.Md;have Q9:=ae<|Qy.step Gt;have Qo:=aB (¬tk a9 o r ab) (fun e=>(Gt.W ab e).elim w8 fun e=>by have:=gY.lt;omega);clear y0 y1 y2 y8 y13 DO;have y1:aw W9 ab 1 x.slot:=Gf.af rfl;go_upto_region 17 with(refine xY W9 rfl _ _ _ rfl aag Tryz.underlying3 mb F OP (ah x.slot) rfl rfl rfl Q9.m afQ ?_;intro ga Rp iN;have aa8:=ae Rp;have kh:=ae iN;clear Rp iN);have aaL:Wr Z (ar mb) W9:=fun j _ e=>by rw[show j=mb from e];exact⟨by rw[fD.B];exact Q9.b,.inr fun cs hb=>Q9.m.ne hb rfl⟩
        have wO:=ae<|H9.mH kh aaL (fun j hj e=>Q9.n j hj e) fun j t cs e hb=>Q9.m.ne hb e;have BC:=ae<|kh.aq Gf HAM;have Oi:=ae<|NY.aA kh aaL;have af5:=aB (NQ a9 o r mb (Ak F OP (ah x.slot)) w ga) (⟨aa8,Q9.n,Q9.b⟩);have eQ:=ae<|zm (wr:=x.wr) wO fD.p yj yz HC Oi;clear y1 aaL;have y1:aw ga ab 1 x.slot:=BC.af rfl;have y2:aE ga ab 2 (.bool x.wr):=BC.af rfl;have y8:aw ga ab 8 (x.m.f 5):=BC.af rfl;have y13:aE ga ab 13 (.slice dA x.d.length dc):=BC.af rfl;have HL9:=aB (a9.l=a.l) (Gt.l);go_wp2_with (go_at_call 14;refine eQ.mono ?_;rintro e Bd ⟨u11,r11,agl,rfl,hm,hj,hs⟩;have H11:=ae hj;have RQ:=ae hs;clear hm hj hs)
        go_meet
        case rel=>
         have EL:=fD.act nG x;rw[HS.out]at EL;have ti:=we (sp:=(aQ c 0 hP hk).sp) (c:=c) (n:=cN c) fD.p.en x.slot.toNat x.wr (x.m.f 5) x.d;have Mm:=CT.out;rw[←uc (sp:=(aQ c 0 hP hk).sp) (c:=c) (n:=cN c) (M:=N) x.slot.toNat x.wr (x.m.f 5) x.d]at Mm;have JM:ag (ar mb) W9 ga:=kh.out;refine⟨Z,a9,o,r11,(bB (aQ c 0 hP hk).sp c (cN c) N x.slot.toNat x.wr (x.m.f 5) x.d).wE [],_,_,agl,_,HL9,RQ.x,⟨H11,fD.B,EL,?_,?_,?_,?_,?_⟩,af5.step RQ,Mm⟩
         ·rw[List.nil_append];omega
         ·rw[List.length_append];have:=fD.h2;omega
         ·intro j hj e;rcases RQ.W j hj with h|h
          ·rcases Gt.W j h with h|h
           ·exact fD.fr j h e
           ·have:=fD.cf.lt;omega
          ·have:=fD.cf.lt;have:=Gt.o.size;have:=JM.size;omega
         ·refine RQ.o.aq (JM.aq (Gt.o.aq fD.cf fun e=>fD.fr fI e rfl) fun e=>Q9.m.ne (Gt.o.aq fD.cf fun e=>fD.fr fI e rfl) e) fun e=>?_
          rcases Gt.W fI e with h|h
          ·exact fD.fr fI h rfl
          ·have:=fD.cf.lt;omega
         ·refine((fD.o.aC Gt.o fun j hj=>.inr (by rw[←fD.B];exact fD.j.lo hj)).aC JM fun j hj=>.inr (by rw[show j=mb from hj];exact Q9.b)).aC RQ.o fun j hj=>.inr (by rw[←fD.B];exact wO.lo hj)
       ·have DO:=ae<|pX (i:=x.slot) (b:=x.m.f 5) (wr:=x.wr) (A:=dA) (m:=x.d.length) (q:=dc) fD.j.p hc;have hcc:(dJ c N.S x.slot x.wr (x.m.f 5) x.d.length==0)=false:=by simpa using hc
        rw[show(N.wE []).S=N.S from rfl]at DO;generalize dJ c N.S x.slot x.wr (x.m.f 5) x.d.length=code at *;clear hc h0;go_wp2_with (go_at_call 13;refine DO.mono ?_;rintro e W9 ⟨rfl,rfl⟩)
        go_meet
        case rel=>exact⟨Z,a,o,r,N,[],e2,Dr,F,rfl,rfl,fD.mono (Nat.le_succ k),Qy,.inl ⟨rfl,My⟩⟩
      ·have bk0:(x.kind==0)=false:=by simpa using h0
       have JV:=ae<|xu (x:=x) fD.j fD.p yj lH yz oo (by have:=xl.out;omega);have YC:=ae<|My.act fD.p.en h0;clear h0;go_wp2_with (first|(refine fH (bV x (.slice dA x.d.length dc)) gY Tryz.underlying39 ?_)|(go_at_call 18;refine JV.mono ?_;rintro e W9 ⟨Z9,a9,o9,r9,YK,rfl,Yr,Yh,CL⟩))
       go_meet
       case rel=>
        have ti:=BN (K:=(aQ c 0 hP hk)) (c:=c) fD.p.en x;obtain⟨Mm,Bn⟩:=YC.out;rw[←Bn]at Mm;exact⟨Z9,a9,o9,r9,(lI (aQ c 0 hP hk) c N x).wE [],_,_,YK,F,CL.l,CL.x,fD.step (N':=(lI (aQ c 0 hP hk) c N x).wE []) Yh CL Yr (fD.act nG x) (by rw[List.nil_append];omega) (by rw[List.length_append];have:=fD.h2;omega),Qy.step CL,Mm⟩
     case rest=>
      clear fD gY oo w8 My Qy HAM y0;obtain⟨Z,a9,o,r9,N,E,e2,Dr,F,bu,CX,hI,hM,hE⟩:=hcut;have HI:=ae hI;have HM:=ae hM;have HE:=ae hE;have GI:=ae bu;have HRX:=ae CX;clear hI hM hE bu CX;obtain⟨W8,e8⟩:∃W8,W8=wc:=⟨_,rfl⟩;subst e8;have J7:=uK HI.j.p;rw[GI.out]at J7;have HED:=ae J7;clear J7;go_upto_region 20 with(go_at_call 19;refine HED.mono ?_;rintro e W1 ⟨v1,a1,rfl,Zx,fB,pA⟩;have tm:=aB (dy Z W1 Z.B v1 E) (Zx);have lL:=aB (ve Z a1 o r9 N [] e2 Dr fI (.slice A c.h.length m) (k+1) w W1) (HI.step (HI.j.prog fB pA) pA.lj rfl HI.p (dT _) HI.h2);have EX:=ae<|HM.step pA.lj;have zJ:=aB (a1.l=a.l) (pA.l.trans GI);clear Zx fB pA;obtain⟨EA,ec,ee,_,hem⟩:=tm.shape;subst ee);have hex:E.length≤9223372036854775807:=by unfold maxLen at hem;omega
      clear hem HI HM HED
      go_loopw [83] (fun iv wr=>afv c N.S N.ops E F mb W1 iv wr) (fun iv _=>E.length - (intOf iv).toNat)
      case atStart=>
       refine⟨0,F,dT _,rfl,EX.m,fun _=>rfl,fun h=>?_,ag.aj _ _⟩;rcases HE.out with⟨e,h9⟩|⟨e,he,_⟩
       ·exact h9
       ·rw[he]at h;cases h
      case round=>
       obtain⟨i,G,hi,rfl,hG,h0,hn,ho⟩:=hrel;have HG:=ae hG;have HO:=ae ho;have HN0:=ae hn;clear hG ho hn
       by_cases lJ:i<E.length
       ·obtain⟨e,hEe,hFe,hOe,EL,JL⟩:∃e,E= [e]∧F e.op=some (ah e.slot)∧wX c N.S N.ops (wU F e.op)∧1≤e.op∧e.op≤N.ops:=by
         rcases HE.out with⟨e,_⟩|h
         ·rw[e]at lJ;exact absurd lJ (by simp)
         ·exact h
        have F4:i=0:=by rw[hEe]at lJ;simpa using lJ
        subst F4;obtain rfl:=h0 rfl;have CS:=ae (tm.aA HO (fun j _ e=>by rw[show j=mb from e];exact⟨by rw[lL.B];exact EX.b,.inr fun cs hb=>EX.m.ne hb rfl⟩) fun j hj e=>by obtain⟨_,cs,hb⟩:=tm.aq hj;exact EX.m.ne hb e);obtain⟨g1,cp1,B1,m1,e1,yy,d1⟩:=CS.at_ lJ;injection e1 with e1 _ e3;subst e1 e3;rw[hEe]at yy d1;have HRJ:=aB (∀q v,(jD e (.slice B1 e.ed.length m1))[q]? =some v→aE wr g1 (0*5+q) v) (fun q v hq=>yy q v hq);have HEI:=ae (show DG e.op by have:=lL.p.ops;have:=yj.out;unfold DG;omega);have JT:=ae hFe;have HOE:=ae hOe;have HEE:=ae hEe;have UC:(0:Int)<((E.length:Nat):Int):=ao;have hd9:decide (0<E.length)=true:=decide_eq_true lJ;clear yy d1 hFe hOe EL JL hEe hi h0;rw[Nat.zero_mul]at HRJ;go_upto_region 22 with(first|(refine wpList_load_mid rfl 58 _ rfl g1 0 rfl (jD e (.slice B1 e.ed.length m1)) _ HRJ Tryz.underlying58 rfl bZ ?_)|(refine fJ (jD e (.slice B1 e.ed.length m1)).toArray (Box.fresh wr 58 zRe) eM ?_));have bp:ag az wr ((wr.alloc (.cells zRe 58)).setRow wr.heap.size (jD e (.slice B1 e.ed.length m1)).toArray):=((ag.aj az wr).alloc _).au (.inr (dm _)) _;have cO:=ae<|(Box.fresh wr 58 zRe).au (jD e (.slice B1 e.ed.length m1)).toArray;have UN:=ae<|HG.keep bp;have bf:=ae<|HO.aC bp fun _ h=>h.elim;change Code.wp _ _ _ _ ((wr.alloc (.cells zRe 58)).setRow wr.heap.size (jD e (.slice B1 e.ed.length m1)).toArray);clear bp HRJ HG HO;generalize(wr.alloc (.cells zRe 58)).setRow wr.heap.size (jD e (.slice B1 e.ed.length m1)).toArray=W9 at *;generalize wr.heap.size=qb at *;have Qj:=I5 (P:=Tryz.prog) UN aag Tryz.underlying3 (z:=ah 0) bZ HEI;rw[JT.out]at Qj;simp only[Option.getD_some,Option.isSome_some]at Qj;have t0:aw W9 qb 0 e.slot:=cO.af rfl;have t1:aw W9 qb 1 e.op:=cO.af rfl;obtain⟨u5,ga,Kt,Rp,iN⟩:=pT (P:=Tryz.prog) UN aag Tryz.underlying3 HEI 0;have aa8:=ae Rp;have kh:=ae<|bf.trans iN;clear Rp iN;go_wp2
        go_roundw
        case rel=>exact⟨1,wU G e.op,by rw[HEE.out];exact dm _,by go_num,aa8,fun h=>by omega,fun _=>HOE,kh⟩
        case measure=>simp[intOf];rw[HEE.out];simp
       ·obtain rfl:i=E.length:=ao;clear lJ hi h0;have Bj:=ae<|lL.map EX HO;have nz:=aB (NQ a1 o r9 mb G w wr) (⟨HG,EX.n,EX.b⟩);have Vr:=ae<|HN0 rfl;have J7:=uK Bj.j.p;rw[zJ.out]at J7;have HED:=ae J7;clear J7 lL EX tm HG HN0 HO;go_wp2_with (go_at_call 19;refine HED.mono ?_;rintro e W2 ⟨v2,a2,rfl,QJ,dX,kC⟩;have AG:=aB (ve Z a2 o r9 N [] e2 Dr fI (.slice A c.h.length m) (k+1) w W2) (Bj.step (Bj.j.prog dX kC) kC.lj rfl Bj.p (dT _) Bj.h2);have oG:=ae<|nz.step kC.lj;have af4:=aB (a2.l=a.l) (kC.l.trans zJ);obtain⟨EB,ec2,ee2,_,_⟩:=(show dy Z W2 Z.B v2 []from QJ).shape;subst ee2;clear QJ dX kC)
        go_roundw
        case rel=>exact⟨k+1,Z,a2,o,r9,N,e2,Dr,G,bL,by go_num,af4,HRX,AG,oG,Vr⟩
        case measure=>simp[intOf];have:=bL.out;omega
    ·obtain rfl:k=L.length:=ao;clear aY nO;go_wp2;go_ret;exact⟨rfl,HI.o⟩
  ·have HN:=ae<|wu hP W3 (kx.keep bn);go_wp2_with (first|(refine fH (ak c (.slice A c.h.length m)) dM Tryz.underlying25 ?_)|(go_at_call 11;refine HN.mono ?_;rintro e W4 ⟨rfl,cI⟩;have bK:=ae<|bn.trans cI;clear cI));go_ret;exact⟨rfl,bK⟩
end
end Go.Proofs.YtchofaecncibjaaGreat

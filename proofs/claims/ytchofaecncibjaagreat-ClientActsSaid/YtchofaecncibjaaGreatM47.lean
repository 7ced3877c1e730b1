/- Lemmas. -/
import Derived.Test.YtchofaecncibjaaGreatM45
set_option linter.all false
set_option maxHeartbeats 20000000
set_option maxRecDepth 100000
namespace Go.Proofs.YtchofaecncibjaaGreat
open Go.ChangeShapes Go.RowKit Go.WideShapes
def aep (c:aM)(hP:cK c)(hk:0<3)(l x fI:Nat)(cv:Value)(n:Nat)(w:World)(iv:Value)(wr:World):Prop:=
 ∃(k:Nat) (Z:ZN) (a:cH (aQ c 0 hP hk)) (o:cJ (aQ c 0 hP hk) c 0) (r:kK) (N:CM (aQ c 0 hP hk).σ) (Dr:Nat→List Int),k≤n∧iv=ah k∧a.l=l∧r.x=x∧ve Z a o r N [] [] Dr fI cv k w wr
def aeq (c:aM)(hP:cK c)(hk:0<3)(l x fI:Nat)(cv:Value)(k:Nat)(w:World)(tv:Value)(wx:World):Prop:=
 tv= .bool false∧∃(Z:ZN) (a:cH (aQ c 0 hP hk)) (o:cJ (aQ c 0 hP hk) c 0) (r:kK) (M1:CM (aQ c 0 hP hk).σ) (Dr:Nat→List Int),a.l=l∧r.x=x∧ve Z a o r (M1.wE []) [] M1.en Dr fI cv k w wx
def afx {c:aM}{hP:cK c}{hk:0<3}(Z:ZN)(a:cH (aQ c 0 hP hk))(o:cJ (aQ c 0 hP hk) c 0)(r:kK)(N:CM (aQ c 0 hP hk).σ)(Dr:Nat→List Int)(fI:Nat)(cv:Value)(k:Nat)(w:World)(iv:Value)(wr:World):Prop:=
 ∃i:Nat,i≤cN c∧iv=ah i∧ve Z a o r N [] [] Dr fI cv k w wr
section
theorem cF{P:Prop}(h:P:=by
 first|exact gY.drew|exact agj|exact adM|exact abk|exact abl|exact abm|exact Sb):P:=h
theorem rq{P:Prop}(h:P:=by
 refine jS hK ?_ fun aH=>?_
 ·exact cF
 clear hK;refine cM 22 fun Kc hK=>?_
 go_simp;have hra:=MW HI4.j.q.rc (o1.inv HI4.j.p.j0.ord);rw[show(aQ c 0 hP hk).sp.all ((M1.wE []).wE M1.en).s=al from GI.symm]at hra;refine hra.mono ?_;rintro e V5 ⟨v5,rfl,U0,cA⟩;obtain⟨B2,c2,rfl,JJ,NC⟩:=U0.shape;have vD:=ae U0.at;have HY5:=ae<|Nat.le_trans JJ NC;have afE:=ae<|yi.keep cA fun _ _ _ _ _=>id;have HI5:=ae<|HI4.keep cA;have adM:=ae<|cA.aq abk id;clear hra U0 cA JJ NC;refine jS hK ?_ fun aH=>?_
 ·exact cF
 clear hK;refine cM 23 fun Kc hK=>?_
 go_simp;have hsi:=xZ B1 B2 c1 c2 al al V5 afE vD HY4 HY5;rw[decide_eq_true (rfl:al=al)]at hsi;refine hsi.mono ?_;rintro e V6 ⟨rfl,mm,rfl⟩;have C8:=ae<|HI5.keep ((ag.aj az V5).drewN mm);have agj:=ae<|adM.drewN mm;clear hsi;refine jS hK ?_ fun aH=>?_
 ·exact cF
 clear hK;refine bX [24] ?_;refine cG ?_;clear aH;go_wp2
 go_meet
 case rel=>exact⟨rfl,Z1,a2,o1,r1,M1,YM,Bi,Qp,C8⟩):P:=h
theorem qA{P:Prop}(h:P:=by
 refine jS hK ?_ fun aH=>?_
 ·exact cF
 clear hK;refine cM 12 fun Kc hK=>?_
 go_simp;refine(Tk (L:=M1.en) CS Bj.j.q.en).mono ?_;rintro e V3 ⟨rfl,cB⟩;have AG:=ae<|Bj.keep cB;have abl:=ae<|cB.aq abm id;have UT:=cB.cell UT id;clear cB;refine jS hK ?_ fun aH=>?_
 ·exact cF
 clear hK;refine bX [13,14,15,16,18,19,20] ?_;refine il (i:=17) (j:=21) rfl rfl bZ (fun Kc hK=>?_) (fun Kc hK=>?_)
 ·go_simp;have wF:=kT AG.j.p;rw[Bi.out]at wF;refine wF.mono ?_;rintro e V4 ⟨v4,rfl,Az,cI⟩;obtain⟨al,bu⟩:∃al,al=(aQ c 0 hP hk).sp.all M1.s:=⟨_,rfl⟩;have Az:aF 3 V4 V3.heap.size v4 al:=by rw[bu];exact Az
  have GI:=ae bu;obtain⟨B1,c1,rfl,Dy,Dx⟩:=Az.shape;have yi:=ae Az.at;have HY4:=ae<|Nat.le_trans Dy Dx;have HI4:=ae<|AG.keep cI;have abk:=ae<|cI.aq abl id;have UT:=cI.cell UT id;clear wF Az cI bu Dy Dx;refine jS hK ?_ fun aH=>?_
  ·exact cF
  clear hK;refine cM 21 fun Kc hK=>?_
  go_simp;exact rq
 ·go_simp;refine jS hK ?_ fun aH=>?_
  ·exact cF
  clear hK;refine cM 17 fun Kc hK=>?_
  go_simp;have wF:=kT AG.j.p;rw[Bi.out]at wF;refine wF.mono ?_;rintro e V4 ⟨v4,rfl,Az,cI⟩;obtain⟨al,bu⟩:∃al,al=(aQ c 0 hP hk).sp.all M1.s:=⟨_,rfl⟩;have Az:aF 3 V4 V3.heap.size v4 al:=by rw[bu];exact Az
  have GI:=ae bu;obtain⟨B1,c1,rfl,Dy,Dx⟩:=Az.shape;have yi:=ae Az.at;have HY4:=ae<|Nat.le_trans Dy Dx;have HI4:=ae<|AG.keep cI;have abk:=ae<|cI.aq abl id;have UT:=cI.cell UT id;clear wF Az cI bu Dy Dx;exact rq):P:=h
theorem L7 (c:aM)(L:List iO)(A B:Option Addr)(m n:Nat)(w:World)(bw:aW w A c.h.length m c.h)(hL:fO w.heap.size w B L.length n L):
 Calls Tryz.prog 7 #[.agg (ak c (.slice A c.h.length m)),.slice B L.length n] w fun e w'=>e= .returned (.bool true)∧ag az w w':=by
 have kx:=ae bw;have HL:=ae hL;have fh:=ae<|Nat.le_trans hL.cap hL.max;have Vs:=ae<|Nat.le_trans bw.cap bw.max;have HB:=ae<|Box.fresh w 25 (ak c (.slice A c.h.length m));have HO:=ae<|(ag.aj az w).alloc (.cells (ak c (.slice A c.h.length m)) 25);clear bw hL
 go_enter Tryz.func7,Tryz.ntmps7
 go_upto_region 1 with fail;change Code.wp _ _ _ _ (w.alloc (.cells (ak c (.slice A c.h.length m)) 25));generalize w.alloc (.cells (ak c (.slice A c.h.length m)) 25)=W1 at *;obtain⟨fI,EP⟩:∃fI,fI=w.heap.size:=⟨_,rfl⟩;rw[←EP]at HB ⊢;have JY:=ae EP;clear EP;go_upto_region 3 with(go_at_call 9;refine(lB W1).mono ?_;rintro e W2 ⟨rfl,bp⟩);have cO:=ae<|bp.aq HB id;have bf:=ae<|HO.trans bp;clear bp HB HO;have GC:=ae<|nx (cf:=c) (A:=A) (m:=m) (HL.keep bf) Vs;go_upto_if 15 with(first|(refine fH (ak c (.slice A c.h.length m)) cO Tryz.underlying25 ?_)|(go_at_call 10;refine GC.mono ?_;rintro e W3 ⟨rfl,cB⟩));have dM:=ae<|cB.aq cO id;have bn:=ae<|bf.trans cB;clear cB cO bf GC
 cases ye:xi c.h.length L with
 |true=>
  clear ye;go_wp2;go_ret;exact⟨rfl,bn⟩
 |false=>
  obtain⟨_,Mn,vA⟩:=tU ye;have Bi:=ae Mn;have oL:=ae vA;clear ye Mn vA
  by_cases hP:cK c
  ·have hk:0<3:=aD;have lK:=ae hP;have HN:=ae<|uv (kp hP hk) hP W3 (kx.keep bn);have Mz:=aB (∀W,ag az w W→Calls Tryz.prog 12 #[.agg (ak c (.slice A c.h.length m))] W (DS (aQ c 0 hP hk) c w.heap.size W)) (fun W ho=>uo hP hk W (kx.keep ho) ho.size);have nG:=ae<|o8 (hP:=hP) (hk:=hk);have HR:=ae fun(W:World) (ho:ag az w W)=>(Cf A c.h.length m c W (kx.keep ho))
   rw[IM hP]at HR;go_upto_region 6 with(first|(refine fH (ak c (.slice A c.h.length m)) dM Tryz.underlying25 ?_)|(go_at_call 11;refine HN.mono ?_;rintro e W4 ⟨i0,l0,Mq,Mg,u0,g0,Mp,Me,uM,wQ,rfl,h1,h2,h3,h4,h5,h6,h7,h8,h9,ha,hb,hc,hd,he,hf,ho⟩;have wN:=ae<|iq (km hP hk) (B:=w.heap.size) bn.size h1 h2 h3 h4 h5 h6 h7 ⟨h8,h9,ha,hb,hc,hd,he,hf⟩;have Gr:=aB (∀k,b6 (⟨i0,l0,Mq,Mg,u0,g0,Mp,Me,uM,wQ,aJ,fun _=>aJ,fun _=>none⟩:cH (aQ c 0 hP hk)) k→W3.heap.size≤k) ((iq (km hP hk) (B:=W3.heap.size) (dm _) h1 h2 h3 h4 h5 h6 h7 ⟨h8,h9,ha,hb,hc,hd,he,hf⟩).lo);have bK:=ae<|bn.trans ho;have iM:=ae<|ho.aq dM id;clear h1 h2 h3 h4 h5 h6 h7 h8 h9 ha hb hc hd he hf ho;have jc:=ae (HR W4 bK)));go_upto_region 8 with(first|(refine fH (ak c (.slice A c.h.length m)) iM Tryz.underlying25 ?_)|(go_at_call 25;refine jc.mono ?_;rintro e W5 ⟨rfl,cA⟩));have iG:=ae<|cA.aq iM id;have E3:=ae<|wN.keep cA;have bM:=ae<|bK.trans cA;clear cA wN iM bK jc HR;have w7:=ae<|Mz W5 bM;generalize zC:(⟨i0,l0,Mq,Mg,u0,g0,Mp,Me,uM,wQ,aJ,fun _=>aJ,fun _=>none⟩:cH (aQ c 0 hP hk))=a0 at *;obtain rfl:l0=a0.l:=by rw[←zC]
   clear zC HN Mz;go_upto_region 9 with(first|(refine fH (ak c (.slice A c.h.length m)) iG Tryz.underlying25 ?_)|(go_at_call 12;refine w7.mono ?_;rintro e W6 ⟨o0,r0,rfl,h1,h2,h3⟩;have Mv:=ae h1;have nR:=ae h2;have cZ:=ae h3;clear h1 h2 h3));have C9:=ae (show ve ⟨w.heap.size,ke o0 r0.r⟩ a0 o0 r0 (m0 (aQ c 0 hP hk)) [] [] (fun _=>[]) fI (.slice A c.h.length m) 0 w W6 from
    {j:=LJ.start (M:=m0 (aQ c 0 hP hk)) (M2:=m0 (aQ c 0 hP hk)) E3 Mv cZ nR
     B:=rfl
     p:=⟨rfl,fun j hj h=>absurd rfl h,dm _,by show(aQ c 0 hP hk).sp.eE (aQ c 0 hP hk).s0≤0;rw[nG.out];exact dm _⟩
     h1:=Nat.le_refl _
     h2:=Nat.le_refl _
     fr:=fun j hj e=>by
      have h3:=dM.lt;rcases hj with hj|hj
      ·have:=Gr.out j hj;omega
      ·have:=nR.out j (.inl hj);have:=iG.lt;omega
     cf:=cZ.aq iG id
     o:=bM.trans cZ})
   clear dM bn iG E3 bM w7 Gr Mv nR cZ;go_upto_region 10 with fail;obtain⟨l0,hl0⟩:∃l0,l0=a0.l:=⟨_,rfl⟩;obtain⟨x0,th⟩:∃x0,x0=r0.x:=⟨_,rfl⟩;rw[←hl0,←th]
   go_loopw [34] (fun iv wr=>aep c hP hk l0 x0 fI (.slice A c.h.length m) L.length w iv wr) (fun iv _=>L.length - (intOf iv).toNat)
   case atStart=>exact⟨0,_,a0,o0,r0,_,_,dT _,rfl,hl0.symm,th.symm,C9⟩
   case round=>
    clear C9;obtain⟨k,Z,a,o,r,N,Dr,nO,rfl,bu,CX,hI⟩:=hrel;clear hl0 th;subst bu CX;have HI:=ae hI;clear hI
    by_cases aY:k<L.length
    ·obtain⟨g,og,dv,rfl,hg,jU,hdd⟩:=HL.ed HI.o HI.B aY;have nS:=oL.out k aY;have iV:(k:Int)<L.length:=ao;have Fk:(k:Int)<1000:=by have:=Bi.out;omega
     have bL:=ae aY;have xl:=ae nS;have wM:=ae jU;have yA:=ae hdd;clear jU aY nO nS hdd;generalize L.getD k default=x at *;obtain⟨dA,dc,rfl⟩:=yA.shape;have Mt:=aB (∀j v,(bV x (.slice dA x.d.length dc)).toList[j]? =some v→aE wr g (og+k*14+j) v) (fun j v hj=>wM j v (by rw[←Array.getElem?_toList];exact hj));go_upto_region 12 with(first|(refine wpList_load_mid rfl 39 _ rfl g (og+k*14) rfl (bV x (.slice dA x.d.length dc)).toList _ Mt Tryz.underlying39 rfl bZ ?_)|(refine fJ (bV x (.slice dA x.d.length dc)) (Box.fresh wr 39 lM) (tX _ _ _ _) ?_));have bT:ag az wr ((wr.alloc (.cells lM 39)).setRow wr.heap.size (bV x (.slice dA x.d.length dc))):=((ag.aj az wr).alloc _).au (.inr (dm _)) _;have gY:=ae<|(Box.fresh wr 39 lM).au (bV x (.slice dA x.d.length dc));have w8:=aB (¬tk a o r wr.heap.size) (fun e=>by have:=HI.j.kB e;omega);have fD:=ae<|HI.keep bT;have oo:=ae<|yA.keep bT;change Code.wp _ _ _ _ ((wr.alloc (.cells lM 39)).setRow wr.heap.size (bV x (.slice dA x.d.length dc)));clear bT HI yA wM Mt;generalize(wr.alloc (.cells lM 39)).setRow wr.heap.size (bV x (.slice dA x.d.length dc))=W8 at *;generalize wr.heap.size=ab at *;have JV:=ae<|fun(W:World) (ho:ag az W8 W)=>xu (x:=x) (fD.j.keep ho) fD.p (by have:=Bi.out;have:=bL.out;omega) (dT _) (dT _) (oo.keep ho) (by have:=xl.out;omega);go_upto_region 12 with fail;refine CW ?_
     go_cut [63] (fun tv wx=>aeq c hP hk a.l r.x fI (.slice A c.h.length m) (k+1) w tv wx)
     case first=>
      go_upto_region 12 with fail;refine oa (fun w':World=>Box w' ab 39 (bV x (.slice dA x.d.length dc))) 25 ?_ ?_
      ·exact cF
      intro aH;refine bX [0,1] ?_;refine cj (i:=2) (v:=.agg (bV x (.slice dA x.d.length dc))) bZ rfl bZ (fun _ _ _ h=>h) (yieldsIf_load_mid (by rfl) 39 _ rfl ab 0 rfl (bV x (.slice dA x.d.length dc)).toList _ (fun w hw j v hj=>by rw[Nat.zero_add];exact hw.af (by rw[←Array.getElem?_toList];exact hj)) Tryz.underlying39 rfl bZ) (by assumption) ?_;refine CW ?_;refine cM 3 fun Kc hK=>?_
      go_simp;refine(JV W8.drew ((ag.aj az W8).drew)).mono ?_;rintro e V1 ⟨Z1,a1,o1,r1,YM,rfl,hB1,hj1,pA⟩;have ti:=BN (K:=aQ c 0 hP hk) (c:=c) fD.p.en x;have YA:=fD.act nG x;generalize hM:lI (aQ c 0 hP hk) c N x=M1 at *;have lL:=aB (ve Z1 a1 o1 r1 (M1.wE []) M1.en M1.en YM fI (.slice A c.h.length m) (k+1) w V1) (fD.step hj1 ((zD.refl ((ag.aj az W8).drew)).trans pA) hB1 YA ao ao);have Sb:=aB (Box V1 ab 39 (bV x (.slice dA x.d.length dc))) (pA.o.aq gY.drew w8);have Gc:=aB (∀j,tk a1 o1 r1 j→j≠ab) (fun j hj e=>(pA.W j hj).elim (fun h9=>w8 (e▸h9)) fun h9=>by have:=gY.lt;have h8:W8.heap.size≤j:=h9;omega);have zJ:=aB (a1.l=a.l) (pA.l);have Qp:=aB (r1.x=r.x) (pA.x);have y22:aE V1 r.x 22 r1.en:=by rw[←Qp.out];exact lL.j.q.Qn
      have UT:aE V1 r.x 17 (aO r1.r.cb):=by rw[←Qp.out];exact lL.j.q.mD
      clear hM hj1 pA hB1 ti YA;refine jS hK ?_ fun aH=>?_
      ·exact cF
      clear hK;refine bX [4,5,6,8,9,10] ?_;refine il (i:=7) (j:=11) rfl rfl bZ (fun Kc hK=>?_) (fun Kc hK=>?_)
      ·go_simp;have J7:=uK lL.j.p;rw[zJ.out]at J7;refine J7.mono ?_;rintro e V2 ⟨v2,a2,rfl,QJ,dX,kC⟩;have Rb:=lL.j.prog dX kC;have Bj:=aB (ve Z1 a2 o1 r1 (M1.wE []) [] M1.en YM fI (.slice A c.h.length m) (k+1) w V2) (lL.step Rb kC.lj rfl lL.p (dT _) lL.h2);have CS:=aB (dy Z1 V2 Z1.B v2 M1.en) (QJ);have abm:=ae<|kC.o.aq Sb fun e=>Gc ab (.inl e) rfl;have Gy:=aB (∀j,tk a2 o1 r1 j→j≠ab) (fun j hj e=>(kC.lj.W j hj).elim (fun h9=>Gc j h9 e) fun h9=>by have:=Sb.lt;omega);have Bi:=aB (a2.l=a.l) (kC.l.trans zJ);have y22:aE V2 r.x 22 r1.en:=by rw[←Qp.out];exact Bj.j.q.Qn
       have UT:aE V2 r.x 17 (aO r1.r.cb):=by rw[←Qp.out];exact Bj.j.q.mD
       clear J7 QJ dX kC Rb;refine jS hK ?_ fun aH=>?_
       ·exact cF
       clear hK;refine cM 11 fun Kc hK=>?_
       go_simp;exact qA
      ·go_simp;refine jS hK ?_ fun aH=>?_
       ·exact cF
       clear hK;refine cM 7 fun Kc hK=>?_
       go_simp;have J7:=uK lL.j.p;rw[zJ.out]at J7;refine J7.mono ?_;rintro e V2 ⟨v2,a2,rfl,QJ,dX,kC⟩;have Rb:=lL.j.prog dX kC;have Bj:=aB (ve Z1 a2 o1 r1 (M1.wE []) [] M1.en YM fI (.slice A c.h.length m) (k+1) w V2) (lL.step Rb kC.lj rfl lL.p (dT _) lL.h2);have CS:=aB (dy Z1 V2 Z1.B v2 M1.en) (QJ);have abm:=ae<|kC.o.aq Sb fun e=>Gc ab (.inl e) rfl;have Gy:=aB (∀j,tk a2 o1 r1 j→j≠ab) (fun j hj e=>(kC.lj.W j hj).elim (fun h9=>Gc j h9 e) fun h9=>by have:=Sb.lt;omega);have Bi:=aB (a2.l=a.l) (kC.l.trans zJ);have y22:aE V2 r.x 22 r1.en:=by rw[←Qp.out];exact Bj.j.q.Qn
       have UT:aE V2 r.x 17 (aO r1.r.cb):=by rw[←Qp.out];exact Bj.j.q.mD
       clear J7 QJ dX kC Rb;exact qA
     case rest=>
      clear fD gY oo w8 JV;obtain⟨rfl,Z1,a2,o1,r1,M1,YM,bu,CX,hI⟩:=hcut;have C8:=ae hI;have Bi:=ae bu;have Qp:=ae CX;clear hI bu CX;obtain⟨W9,e9⟩:∃W9,W9=wc:=⟨_,rfl⟩;subst e9;have Qo:=ae C8.j.q.Qn;have U4:=C8.j.q.pH (ag.aj _ _) (dy.nil Z1 W9 Z1.B) fun k hk=>(a7 hk).elim
      have CL:vO o1 r1 {r1 with en:=aJ} W9 (W9.setCell ⟨r1.x,22,none⟩ aJ):=⟨rfl,rfl,rfl,fun k hk=>.inl (by
       rcases hk with e|e|e|e|e
       ·exact .inl e
       ·exact .inr (.inl e)
       ·exact .inr (.inr (.inl e))
       ·exact .inr (.inr (.inr (.inl e)))
       ·exact(a7 e).elim),U4.2⟩
      have R1:=aB (ve Z1 a2 o1 {r1 with en:=aJ} (M1.wE []) [] [] YM fI (.slice A c.h.length m) (k+1) w (W9.setCell ⟨r1.x,22,none⟩ aJ)) (C8.step (C8.j.ref U4.1 CL) CL.lj rfl C8.p (dT _) (dT _));have z22:aE W9 r.x 22 r1.en:=by rw[←Qp.out];exact Qo
      have f22:W9.frozen? ⟨r.x,22,none⟩=false:=by rw[←Qp.out];exact C8.j.q.aq.free 22
      obtain⟨r2,wB⟩:∃r2:kK,r2= {r1 with en:=aJ}:=⟨_,rfl⟩;have HX2:=aB (r2.x=r.x) (by rw[wB];exact Qp);rw[←wB,Qp.out]at R1;clear wB;clear U4 CL Qo;go_upto_region 15 with fail;change Code.wp _ _ _ _ (W9.setCell ⟨r.x,22,none⟩ aJ);clear z22 f22;generalize W9.setCell ⟨r.x,22,none⟩ aJ=ga at *;have jZ:aE ga r.x 19 (aU r2.a8 (cN c) (cN c)):=by rw[←HX2.out];exact R1.j.q.pw
      have mX:cN c≤4:=R1.j.q.nn.2.1;go_upto_region 16 with fail;clear jZ
      go_loopw [72] (fun iv wr=>afx (hP:=hP) (hk:=hk) Z1 a2 o1 r2 (M1.wE []) YM fI (.slice A c.h.length m) (k+1) w iv wr) (fun iv _=>cN c - (intOf iv).toNat)
      case atStart=>exact⟨0,dT _,rfl,R1⟩
      case round=>
       clear R1;obtain⟨i,hi,rfl,hI⟩:=hrel;have HI:=ae hI;clear hI
       by_cases lJ:i<cN c
       ·obtain⟨Ad,nd,md,eD⟩:=HI.j.q.DD i lJ;obtain⟨z0,_,_,_,_⟩:=bJ HI.j.q.slots lJ eD;have UC:(i:Int)<cN c:=ao;have F4:(0:Int)≤(i:Int):=Int.natCast_nonneg i;have JS:=ae lJ;have jZ:aE wr r.x 19 (aU r2.a8 (cN c) (cN c)):=by rw[←HX2.out];exact HI.j.q.pw
        have Ge:=ae<|fun(W:World) (ho:ag az wr W)=>xS (HI.j.p.keep ho) (i:Int);rw[Bi.out]at Ge;have hmf:vk (cN c) ((M1.wE []).wE []).S (i:Int)=(((((M1.wE []).wE []).S i).op)==0):=by
         unfold vk;rw[decide_eq_true F4,decide_eq_true UC,Int.toNat_natCast];simp;rfl
        rw[hmf]at Ge;clear hmf eD lJ hi;change aw wr r2.a8 (i*5) ((((M1.wE []).wE []).S i).op)at z0;generalize(((M1.wE []).wE []).S i).op=op at *;go_upto_region 18 with fail;have k0:aE wr.drew r.x 19 (aU r2.a8 (cN c) (cN c)):=jZ;have k1:aw wr.drew r2.a8 (i*5) op:=z0;go_upto_region 18 with fail;refine dU (fun w':World=>aE w' r.x 19 (aU r2.a8 (cN c) (cN c))∧aw w' r2.a8 (i*5) op) 12 fun aH=>?_
        refine bX [0,1,3,4,5,6,7,8,9,10,11] ?_;refine cM 2 fun Kc hK=>?_
        go_simp;refine(Ge wr.drew ((ag.aj az wr).drew)).mono ?_;rintro e V7 ⟨rfl,rfl⟩;refine eh hK fun aH=>?_
        clear hK;refine cG ?_;clear aH k0 k1 jZ z0;have af7:=ae<|HI.keep ((ag.aj az wr).drew);go_wp2
        go_roundw
        case rel=>exact⟨i+1,JS,by go_num,af7⟩
        case measure=>simp[intOf];have:=JS.out;omega
       ·obtain rfl:i=cN c:=ao;clear lJ hi;go_wp2
        go_roundw
        case rel=>exact⟨k+1,Z1,a2,o1,r2,M1.wE [],YM,bL,by go_num,Bi,HX2,HI⟩
        case measure=>simp[intOf];have:=bL.out;omega
    ·obtain rfl:k=L.length:=ao;clear aY nO;have jZ:=HI.j.q.pw;have k6:=ae<|xS HI.j.p (-1);have lG:=ae<|xS HI.j.p (cN c:Int);have e1:vk (cN c) (N.wE []).S (-1)=false:=by unfold vk;rfl
     have e2:vk (cN c) (N.wE []).S (cN c:Int)=false:=by unfold vk;rw[decide_eq_false (Int.lt_irrefl _)];simp
     rw[e1]at k6;rw[e2]at lG;clear e1 e2;go_wp2_with (go_at_call 24;first|(refine k6.mono ?_;rintro e W9 ⟨rfl,rfl⟩;clear k6)|(refine lG.mono ?_;rintro e W9 ⟨rfl,rfl⟩));go_ret;exact⟨rfl,HI.o⟩
  ·have HN:=ae<|wu hP W3 (kx.keep bn);have HR:=ae fun(W:World) (ho:ag az w W)=>(Cf A c.h.length m c W (kx.keep ho))
   rw[fg hP]at HR;go_upto_region 6 with(first|(refine fH (ak c (.slice A c.h.length m)) dM Tryz.underlying25 ?_)|(go_at_call 11;refine HN.mono ?_;rintro e W4 ⟨rfl,cI⟩;have iM:=ae<|cI.aq dM id;have bK:=ae<|bn.trans cI;have jc:=ae<|HR W4 bK;clear cI));go_wp2_with (first|(refine fH (ak c (.slice A c.h.length m)) iM Tryz.underlying25 ?_)|(go_at_call 25;refine jc.mono ?_;rintro e W5 ⟨rfl,cA⟩));go_ret;exact⟨by simp,bK.trans cA⟩
end
end Go.Proofs.YtchofaecncibjaaGreat

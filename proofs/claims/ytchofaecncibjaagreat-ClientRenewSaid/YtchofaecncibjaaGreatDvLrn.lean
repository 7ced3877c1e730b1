/- ClientRenew, walked. -/
import Derived.Test.YtchofaecncibjaaGreatM45
import Derived.Test.YtchofaecncibjaaGreatDvCrw
import Derived.Test.YtchofaecncibjaaGreatM36
import Derived.Deep.DeepCutAuto
import Derived.Deep.CutRange
import Derived.Test.YtchofaecncibjaaGreatM3
import Derived.Test.YtchofaecncibjaaGreatM2
import Derived.Test.YtchofaecncibjaaGreatM1
import Derived.Test.YtchofaecncibjaaGreatM4
import Derived.Test.YtchofaecncibjaaGreatM5
set_option linter.all false
set_option maxHeartbeats 20000000
set_option maxRecDepth 100000
namespace Go.Proofs.YtchofaecncibjaaGreat
open Go.RowKit Go.ChangeShapes Go.WideShapes
def Ss (c:aM)(hP:cK c)(hk:0<3)(l x fI:Nat)(cv:Value)(n:Nat)(w:World)(iv:Value)(wr:World):Prop:=
 ∃(k:Nat) (Z:ZN) (a:cH (aQ c 0 hP hk)) (o:cJ (aQ c 0 hP hk) c 0) (r:kK) (N:CM (aQ c 0 hP hk).σ) (E:List nP) (Dr:Nat→List Int),k≤n∧iv=ah k∧a.l=l∧r.x=x∧ve Z a o r N E E Dr fI cv k w wr
theorem fO.later {b b':Nat}{w:World}{A:Option Addr}{n c:Nat}{L:List iO}(h:fO b w A n c L)(hb:b≤b'):fO b' w A n c L:=
 ⟨h.len,h.cap,h.max,fun i hi=>by
  obtain⟨g,o,dv,e,hg,hc,hd,hk⟩:=h.at_ i hi;exact⟨g,o,dv,e,Nat.lt_of_lt_of_le hg hb,hc,hd,fun k h0 h1=>Nat.lt_of_lt_of_le (hk k h0 h1) hb⟩⟩
def allF (S:Nat→kY):Nat→Bool
 |0=>true
 |k+1=>allF S k&&decide ((S k).op=0)
theorem allF_any (S:Nat→kY)(n:Nat):((List.range n).any fun i=>bsP (S i))= !allF S n:=by
 induction n with
 |zero=>rfl
 |succ n ih=>
  rw[List.range_succ,List.any_append,ih,allF];unfold bsP
  by_cases e:(S n).op=0<;>cases allF S n<;>simp[e]
theorem allF_at {S:Nat→kY}{n:Nat}(h:allF S n=true){i:Nat}(hi:i<n):(S i).op=0:=by
 induction n with
 |zero=>omega
 |succ n ih=>
  rw[allF,Bool.and_eq_true]at h
  by_cases e:i=n
  ·rw[e];exact of_decide_eq_true h.2
  ·exact ih h.1 (by omega)
theorem mMoves_none {σ:Type}(sp:eY σ)(n:Nat)(S:Nat→kY)(l:List (Int×Nat))(s:σ)(T:List PM):vT sp n S l (s,(fun _=>none),T)=(s,(fun _=>none),T):=by
 induction l with
 |nil=>rfl
 |cons m l ih=>
  have e:p8 sp n S (s,(fun _=>none),T) m=(s,(fun _=>none),T):=by unfold p8;split<;>rfl
  unfold vT at ih ⊢;rw[List.foldl_cons,e];exact ih
theorem mLevM_none {σ:Type}(sp:eY σ)(c:aM)(n:Nat)(M:CM σ)(b:Int)(hD:M.D=fun _=>none):(bG sp c n M b).s=M.s∧(bG sp c n M b).D=fun _=>none:=by
 unfold bG
 split
 ·have e:yG sp c n M b=(M.s,(fun _=>none),[]):=by unfold yG;rw[hD];exact mMoves_none sp n M.S _ _ _
  exact⟨by show(yG sp c n M b).1=M.s;rw[e],by show(yG sp c n M b).2.1=_;rw[e]⟩
 ·exact⟨rfl,hD⟩
theorem mBeginM_none {σ:Type}(sp:eY σ)(c:aM)(n:Nat)(M:CM σ)(i:Nat)(b:Int)(hD:M.D=fun _=>none):(bB sp c n M i false b []).s=M.s:=by
 obtain⟨h1,h2⟩:=mLevM_none sp c n M b hD;unfold bB;rw[h2,if_neg (fun e=>by cases e.2)];exact h1
theorem sameInts_self (A B:Option Addr)(ca cb:Nat)(l:List Int)(w:World)(ha:gl w (.slice A l.length ca) l)(hb:gl w (.slice B l.length cb) l)(h1:l.length≤maxLen)(h2:l.length≤maxLen):
 Calls Tryz.prog 27 #[.slice A l.length ca,.slice B l.length cb] w fun e w'=>e= .returned (.bool true)∧∃m,w.drewN m=w':=by
 have h:=xZ A B ca cb l l w ha hb h1 h2;rw[decide_eq_true (rfl:l=l)]at h;exact h
def rnM (K':aZ){σ:Type}(M:CM σ):CM K'.σ:=⟨K'.s0,fun _=>none,u0,M.S,M.ops,M.up,M.en⟩
noncomputable def rnOk (c t:aM)(S:Nat→kY):Bool:=allF S (cN c)&&(Al t&&decide (t.f 1=c.f 1))
def RnAt (S:Nat→kY)(n:Nat)(w:World)(ag0 iv:Value)(wr:World):Prop:=∃i:Nat,i≤n∧iv=ah i∧ag0= .bool (allF S i)∧ag az w wr
section
variable {Z:ZN}{w:World}{K:aZ}{c t:aM}{a:cH K}{M:CM K.σ}
theorem cli_renew_no (h:bm Z K c a M w){A:Option Addr}{m:Nat}(bw:aW w A t.h.length m t.h)(hq:rnOk c t M.S=false):
 Calls Tryz.prog 29 #[aO a.l,.agg (ak t (.slice A t.h.length m))] w fun e w'=>e= .returned (.bool false)∧ag az w w':=by
 by_cases h1:t.f 1=((cN c:Nat):Int)
 ·cases h2:allF M.S (cN c)with
  |false=>exact cli_renew_busy h h1 (by rw[allF_any,h2];rfl)
  |true=>
   refine cli_renew_bad h bw h1 (by rw[allF_any,h2];rfl) fun hP=>?_
   unfold rnOk at hq;rw[h2,IM hP,decide_eq_true (h1.trans h.nn.2.2)]at hq
   cases hq
 ·exact cli_renew_slots h h1
theorem crenew_walk (c t:aM)(L:List iO)(A B D:Option Addr)(m n q:Nat)(w:World)(bw:aW w A c.h.length m c.h)(hit:aW w D t.h.length q t.h)(hL:fO w.heap.size w B L.length n L):
 Calls Tryz.prog 8 #[.agg (ak c (.slice A c.h.length m)),.agg (ak t (.slice D t.h.length q)),.slice B L.length n] w fun e w'=>e= .returned (.bool true)∧ag az w w':=by
 have ho0:ag az w ((w.alloc (.cells (ak c (.slice A c.h.length m)) 25)).alloc (.cells (ak t (.slice D t.h.length q)) 25)):=((ag.aj az w).alloc _).alloc _;have yq:=ae ho0;have kx:=ae (bw.keep ho0);have CV:=ae (hit.keep ho0);have HL:=ae ((hL.keep ho0).later ho0.size);have Vs:=ae (Nat.le_trans bw.cap bw.max);have HMT:=ae (Nat.le_trans hit.cap hit.max);have HB:=ae (((ag.aj az (w.alloc (.cells (ak c (.slice A c.h.length m)) 25))).alloc (.cells (ak t (.slice D t.h.length q)) 25)).aq (Box.fresh w 25 (ak c (.slice A c.h.length m))) id);have HT:=aB (Box ((w.alloc (.cells (ak c (.slice A c.h.length m)) 25)).alloc (.cells (ak t (.slice D t.h.length q)) 25)) (w.heap.size+1) 25 (ak t (.slice D t.h.length q))) (by have h:=Box.fresh (w.alloc (.cells (ak c (.slice A c.h.length m)) 25)) 25 (ak t (.slice D t.h.length q));rw[World.size_alloc]at h;exact h);clear bw hit hL ho0
 go_enter Tryz.func8,Tryz.ntmps8
 go_upto_region 1 with fail;change Code.wp _ _ _ _ ((w.alloc (.cells (ak c (.slice A c.h.length m)) 25)).alloc (.cells (ak t (.slice D t.h.length q)) 25));generalize((w.alloc (.cells (ak c (.slice A c.h.length m)) 25)).alloc (.cells (ak t (.slice D t.h.length q)) 25))=W1 at *;obtain⟨tfb,htf⟩:∃tfb,tfb=w.heap.size+1:=⟨_,rfl⟩;rw[←htf]at HT ⊢;have HTF:=ae (show w.heap.size<tfb by omega);clear htf;generalize w.heap.size=fI at *;go_upto_region 3 with(go_at_call 9;refine(lB W1).mono ?_;rintro e W2 ⟨rfl,bp⟩);have cO:=ae (bp.aq HB id);have HT2:=ae (bp.aq HT id);have bf:=ae bp;clear bp;have hlg:=nx (cf:=c) (A:=A) (m:=m) (HL.keep bf) Vs;have J3:=HMT.out
 cases ye:xi c.h.length L with
 |true=>
  rw[ye]at hlg;have GC:=ae hlg;clear hlg ye J3;go_wp2_with (first|(refine fH (ak c (.slice A c.h.length m)) cO Tryz.underlying25 ?_)|(go_at_call 10;refine GC.mono ?_;rintro e W3 ⟨rfl,cB⟩));go_ret;exact⟨rfl,yq.trans (bf.trans cB)⟩
 |false=>
  rw[ye]at hlg;have GC:=ae hlg;clear hlg;obtain⟨_,Mn,vA⟩:=tU ye;have Bi:=ae Mn;have oL:=ae vA;clear ye Mn vA;have hx20:t.h.length≤9223372036854775807:=by unfold maxLen at J3;omega
  clear J3
  by_cases ES:20<t.h.length
  ·have g1:decide (20<t.h.length)=true:=decide_eq_true ES;have g2:decide ((20:Int)<(t.h.length:Int))=true:=decide_eq_true (by omega);go_wp2_with (first|(refine fH (ak c (.slice A c.h.length m)) cO Tryz.underlying25 ?_)|(go_at_call 10;refine GC.mono ?_;rintro e W3 ⟨rfl,cB⟩;have x16:aE W3 tfb 16 (.slice D t.h.length q):=(cB.aq HT2 id).af (fA t _)));go_ret;exact⟨rfl,yq.trans (bf.trans cB)⟩
  have g1:decide (20<t.h.length)=false:=decide_eq_false ES;have g2:decide ((20:Int)<(t.h.length:Int))=false:=decide_eq_false (by omega);go_upto_region 5 with(first|(refine fH (ak c (.slice A c.h.length m)) cO Tryz.underlying25 ?_)|(go_at_call 10;refine GC.mono ?_;rintro e W3 ⟨rfl,cB⟩;have x16:aE W3 tfb 16 (.slice D t.h.length q):=(cB.aq HT2 id).af (fA t _)));have dM:=ae (cB.aq cO id);have bn:=ae (bf.trans cB);clear cB cO bf GC g1 g2 ES hx20 x16 HT2
  by_cases hP:cK c
  ·have hk:0<3:=by decide
   have lK:=ae hP;have HN:=ae (uv (kp hP hk) hP W3 (kx.keep bn));have Mz:=aB (∀W,ag az W1 W→Calls Tryz.prog 12 #[.agg (ak c (.slice A c.h.length m))] W (DS (aQ c 0 hP hk) c W1.heap.size W)) (fun W ho=>uo hP hk W (kx.keep ho) ho.size);have nG:=ae (o8 (hP:=hP) (hk:=hk));go_upto_region 8 with(first|(refine fH (ak c (.slice A c.h.length m)) dM Tryz.underlying25 ?_)|(go_at_call 11;refine HN.mono ?_;rintro e W4 ⟨i0,l0,Mq,Mg,u0,g0,Mp,Me,uM,wQ,rfl,h1,h2,h3,h4,h5,h6,h7,h8,h9,ha,hb,hc,hd,he,hf,ho⟩;have wN:=ae (iq (km hP hk) (B:=W1.heap.size) bn.size h1 h2 h3 h4 h5 h6 h7 ⟨h8,h9,ha,hb,hc,hd,he,hf⟩);have Gr:=aB (∀k,b6 (⟨i0,l0,Mq,Mg,u0,g0,Mp,Me,uM,wQ,aJ,fun _=>aJ,fun _=>none⟩:cH (aQ c 0 hP hk)) k→W3.heap.size≤k) ((iq (km hP hk) (B:=W3.heap.size) (Nat.le_refl _) h1 h2 h3 h4 h5 h6 h7 ⟨h8,h9,ha,hb,hc,hd,he,hf⟩).lo);have bK:=ae (bn.trans ho);have iM:=ae (ho.aq dM id);clear h1 h2 h3 h4 h5 h6 h7 h8 h9 ha hb hc hd he hf ho));have iG:=iM;have E3:=wN;have bM:=bK;clear iM wN bK;generalize W4=W5 at *;have w7:=ae (Mz W5 bM);generalize zC:(⟨i0,l0,Mq,Mg,u0,g0,Mp,Me,uM,wQ,aJ,fun _=>aJ,fun _=>none⟩:cH (aQ c 0 hP hk))=a0 at *;obtain rfl:l0=a0.l:=by rw[←zC]
   clear zC HN Mz;go_upto_region 9 with(first|(refine fH (ak c (.slice A c.h.length m)) iG Tryz.underlying25 ?_)|(go_at_call 12;refine w7.mono ?_;rintro e W6 ⟨o0,r0,rfl,h1,h2,h3⟩;have Mv:=ae h1;have nR:=ae h2;have cZ:=ae h3;clear h1 h2 h3));have C9:=ae (show ve ⟨W1.heap.size,ke o0 r0.r⟩ a0 o0 r0 (m0 (aQ c 0 hP hk)) [] [] (fun _=>[]) fI (.slice A c.h.length m) 0 W1 W6 from
    {j:=LJ.start (M:=m0 (aQ c 0 hP hk)) (M2:=m0 (aQ c 0 hP hk)) E3 Mv cZ nR
     B:=rfl
     p:=⟨rfl,fun j hj h=>absurd rfl h,Nat.le_refl _,by show(aQ c 0 hP hk).sp.eE (aQ c 0 hP hk).s0≤0;rw[nG.out];exact Nat.le_refl _⟩
     h1:=Nat.le_refl _
     h2:=Nat.le_refl _
     fr:=fun j hj e=>by
      have h3:=dM.lt;rcases hj with hj|hj
      ·have:=Gr.out j hj;omega
      ·have:=nR.out j (.inl hj);have:=iG.lt;omega
     cf:=cZ.aq iG id
     o:=bM.trans cZ})
   clear dM bn iG E3 bM w7 Gr Mv nR cZ;go_upto_region 10 with fail;obtain⟨l0,hl0⟩:∃l0,l0=a0.l:=⟨_,rfl⟩;obtain⟨x0,th⟩:∃x0,x0=r0.x:=⟨_,rfl⟩;rw[←hl0,←th]
   go_loopw [41] (fun iv wr=>Ss c hP hk l0 x0 fI (.slice A c.h.length m) L.length W1 iv wr) (fun iv _=>L.length - (intOf iv).toNat)
   case atStart=>exact⟨0,_,a0,o0,r0,_,[],_,Nat.zero_le _,rfl,hl0.symm,th.symm,C9⟩
   case round=>
    clear C9;obtain⟨k,Z,a,o,r,N,E,Dr,nO,rfl,bu,CX,hI⟩:=hrel;clear hl0 th;subst bu CX;have HI:=ae hI;clear hI
    by_cases aY:k<L.length
    ·obtain⟨g,og,dv,rfl,hg,jU,hdd⟩:=HL.ed HI.o HI.B aY;have nS:=oL.out k aY;have iV:(k:Int)<L.length:=by omega
     have Fk:(k:Int)<1000:=by have:=Bi.out;omega
     have bL:=ae aY;have yj:=ae (show k≤1000 by omega);have GH:=ae (show E.length≤1000 by have:=HI.h1;omega);have xl:=ae nS;have wM:=ae jU;have yA:=ae hdd;clear jU aY nO nS hdd;generalize L.getD k default=x at *;obtain⟨dA,dc,rfl⟩:=yA.shape;have Mt:=aB (∀j v,(bV x (.slice dA x.d.length dc)).toList[j]? =some v→aE wr g (og+k*14+j) v) (fun j v hj=>wM j v (by rw[←Array.getElem?_toList];exact hj));go_upto_region 12 with(first|(refine wpList_load_mid rfl 39 _ rfl g (og+k*14) rfl (bV x (.slice dA x.d.length dc)).toList _ Mt Tryz.underlying39 rfl (by kernel_rfl) ?_)|(refine fJ (bV x (.slice dA x.d.length dc)) (Box.fresh wr 39 lM) (tX _ _ _ _) ?_));have bT:ag az wr ((wr.alloc (.cells lM 39)).setRow wr.heap.size (bV x (.slice dA x.d.length dc))):=((ag.aj az wr).alloc _).au (.inr (Nat.le_refl _)) _;have gY:=ae ((Box.fresh wr 39 lM).au (bV x (.slice dA x.d.length dc)));have w8:=aB (¬tk a o r wr.heap.size) (fun e=>by have:=HI.j.kB e;omega);have fD:=ae (HI.keep bT);have oo:=ae (yA.keep bT);change Code.wp _ _ _ _ ((wr.alloc (.cells lM 39)).setRow wr.heap.size (bV x (.slice dA x.d.length dc)));clear bT HI yA wM Mt;generalize(wr.alloc (.cells lM 39)).setRow wr.heap.size (bV x (.slice dA x.d.length dc))=W8 at *;generalize wr.heap.size=ab at *;have JV:=ae (xu (x:=x) fD.j fD.p yj GH GH oo (by have:=xl.out;omega));go_wp2_with (first|(refine fH (bV x (.slice dA x.d.length dc)) gY Tryz.underlying39 ?_)|(go_at_call 18;refine JV.mono ?_;rintro e W9 ⟨Z9,a9,o9,r9,YK,rfl,Yr,Yh,CL⟩));have ti:=BN (K:=(aQ c 0 hP hk)) (c:=c) fD.p.en x;have Rc:=ae (fD.step (N':=(lI (aQ c 0 hP hk) c N x).wE []) Yh CL Yr (fD.act nG x) (by rw[List.length_append];have:=fD.h1;omega) (by rw[List.length_append];have:=fD.h1;omega))
     go_roundw
     case rel=>exact⟨k+1,Z9,a9,o9,r9,_,_,YK,bL,by go_num,CL.l,CL.x,Rc⟩
     case measure=>simp[intOf];have:=bL.out;omega
    ·obtain rfl:k=L.length:=by omega
     clear aY nO;have y1:aw wr fI 1 (cN c):=(HI.cf.af (aL c _ (i:=1) (by decide))).trans (by rw[HI.j.p.nn.2.2]);have mX:cN c≤4:=HI.j.p.nn.2.1;go_upto_region 16 with fail;clear y1
     go_loopw [12,52] (fun ag0 iv w3=>RnAt N.S (cN c) wr ag0 iv w3) (fun _ iv _=>cN c - (intOf iv).toNat)
     case atStart=>exact⟨0,Nat.zero_le _,rfl,rfl,ag.aj _ _⟩
     case round=>
      obtain⟨i,hi,rfl,rfl,ho⟩:=hrel;have Bj:=ae (HI.keep ho);have HO:=ae ho;clear ho
      by_cases lJ:i<cN c
      ·have UC:(i:Int)<cN c:=by omega
       have F4:(0:Int)≤(i:Int):=Int.natCast_nonneg i;have JS:=ae lJ
       cases hb:allF N.S i with
       |false=>
        have Vr:=ae (show allF N.S (i+1)=false by rw[allF,hb];rfl);clear hb lJ hi;go_wp2
        go_roundw
        case rel=>exact⟨i+1,JS,by go_num,by rw[Vr.out],HO⟩
        case measure=>simp[intOf];have:=JS.out;omega
       |true=>
        have F6:=xS Bj.j.p (i:Int);have hmf:vk (cN c) (N.wE E).S (i:Int)=allF N.S (i+1):=by
         unfold vk;rw[decide_eq_true F4,decide_eq_true UC,Int.toNat_natCast,allF,hb];rfl
        rw[hmf]at F6;have Ge:=ae F6;clear hb lJ hi F6 hmf;go_wp2_with (go_at_call 24;refine Ge.mono ?_;rintro e W4 ⟨rfl,rfl⟩)
        go_roundw
        case rel=>exact⟨i+1,JS,by go_num,rfl,HO⟩
        case measure=>simp[intOf];have:=JS.out;omega
      ·obtain rfl:i=cN c:=by omega
       clear lJ hi HI;have HBK:=ae (kT Bj.j.p);go_upto_region 21 with(go_at_call 21;refine HBK.mono ?_;rintro e W5 ⟨v5,rfl,U0,cA⟩;obtain⟨B2,c2,e5,JJ,NC⟩:=U0.shape;subst e5);have vD:=ae U0;have HY5:=ae (Nat.le_trans JJ NC);have HI5:=ae (Bj.keep cA);have UK:=ae (HI5.o.aq HT id);have HIT5:=ae (CV.keep HI5.o);have QS:=HI5.j.p.nn.2.2;have HCK:=ae QS;clear U0 JJ NC cA HBK Bj HO QS
       go_cut [12,15]from 64 to 75 (fun ag0 sv wx=>sv= .bool (rnOk c t N.S)∧ag az W5 wx)
       case first=>
        cases hf:allF N.S (cN c)with
        |false=>
         have HR:=ae (show rnOk c t N.S=false by unfold rnOk;rw[hf];rfl);clear hf;go_wp2
         go_meet
         case rel=>exact⟨by rw[HR.out],ag.aj _ _⟩
        |true=>
         have z0:aw W5 tfb 0 (t.f 0):=UK.af (aL t _ (i:=0) (by decide));have z1:aw W5 tfb 1 (t.f 1):=UK.af (aL t _ (i:=1) (by decide));have z2:aw W5 tfb 2 (t.f 2):=UK.af (aL t _ (i:=2) (by decide));have z3:aw W5 tfb 3 (t.f 3):=UK.af (aL t _ (i:=3) (by decide));have z4:aw W5 tfb 4 (t.f 4):=UK.af (aL t _ (i:=4) (by decide));have z5:aw W5 tfb 5 (t.f 5):=UK.af (aL t _ (i:=5) (by decide));have z6:aw W5 tfb 6 (t.f 6):=UK.af (aL t _ (i:=6) (by decide));have z7:aw W5 tfb 7 (t.f 7):=UK.af (aL t _ (i:=7) (by decide));have z8:aw W5 tfb 8 (t.f 8):=UK.af (aL t _ (i:=8) (by decide));have z9:aw W5 tfb 9 (t.f 9):=UK.af (aL t _ (i:=9) (by decide));have z10:aw W5 tfb 10 (t.f 10):=UK.af (aL t _ (i:=10) (by decide));have z11:aw W5 tfb 11 (t.f 11):=UK.af (aL t _ (i:=11) (by decide));have z12:aw W5 tfb 12 (t.f 12):=UK.af (aL t _ (i:=12) (by decide));have z13:aw W5 tfb 13 (t.f 13):=UK.af (aL t _ (i:=13) (by decide));have z14:aw W5 tfb 14 (t.f 14):=UK.af (aL t _ (i:=14) (by decide));have z15:aw W5 tfb 15 (t.f 15):=UK.af (aL t _ (i:=15) (by decide));have z16:aE W5 tfb 16 (.slice D t.h.length q):=UK.af (fA t _);have HRT:=aB (Calls Tryz.prog 25 #[.agg #[ah (t.f 0),ah (t.f 1),ah (t.f 2),ah (t.f 3),ah (t.f 4),ah (t.f 5),ah (t.f 6),ah (t.f 7),ah (t.f 8),ah (t.f 9),ah (t.f 10),ah (t.f 11),ah (t.f 12),ah (t.f 13),ah (t.f 14),ah (t.f 15),.slice D t.h.length q]] W5 fun e w'=>e= .returned (.bool (Al t))∧ag az W5 w') (Cf D t.h.length q t W5 HIT5)
         by_cases hPt:cK t
         ·rw[IM hPt]at HRT
          by_cases hq:t.f 1=c.f 1
          ·have U3:(t.f 1==c.f 1)=true:=by simpa using hq
           have HR:=ae (show rnOk c t N.S=true by unfold rnOk;rw[hf,IM hPt,decide_eq_true hq];rfl);clear hf hPt hq;go_wp2_with (go_at_call 25;refine HRT.mono ?_;rintro e W6 ⟨rfl,bT⟩;have q1:aw W6 tfb 1 (t.f 1):=bT.cell z1 id;have q2:aw W6 fI 1 (c.f 1):=(bT.aq HI5.cf id).af (aL c _ (i:=1) (by decide)))
           go_meet
           case rel=>exact⟨by rw[HR.out],bT⟩
          ·have U3:(t.f 1==c.f 1)=false:=by simpa using hq
           have HR:=ae (show rnOk c t N.S=false by unfold rnOk;rw[hf,IM hPt,decide_eq_false hq];rfl);clear hf hPt hq;go_wp2_with (go_at_call 25;refine HRT.mono ?_;rintro e W6 ⟨rfl,bT⟩;have q1:aw W6 tfb 1 (t.f 1):=bT.cell z1 id;have q2:aw W6 fI 1 (c.f 1):=(bT.aq HI5.cf id).af (aL c _ (i:=1) (by decide)))
           go_meet
           case rel=>exact⟨by rw[HR.out],bT⟩
         ·rw[fg hPt]at HRT;have HR:=ae (show rnOk c t N.S=false by unfold rnOk;rw[hf,fg hPt];rfl);clear hf hPt;go_wp2_with (go_at_call 25;refine HRT.mono ?_;rintro e W6 ⟨rfl,bT⟩)
          go_meet
          case rel=>exact⟨by rw[HR.out],bT⟩
       case rest=>
        obtain⟨rfl,bT⟩:=hcut;have fD:=ae (HI5.keep bT);have tq:=ae (bT.aq UK id);have HIT6:=ae (HIT5.keep bT);have JQ:=ae (vD.aA bT fun _ _=>id);clear bT HI5 UK HIT5 vD
        cases hr:rnOk c t N.S with
        |false=>
         have fv:=ae (cli_renew_no (M:=N.wE E) fD.j.p HIT6 hr);have HBK:=ae fun(W:World) (ho:ag az wc W)=>kT (fD.keep ho).j.p
         clear hr;go_upto_region 25 with(first|(refine fH (ak t (.slice D t.h.length q)) tq Tryz.underlying25 ?_)|(go_at_call 29;refine fv.mono ?_;rintro e W7 ⟨rfl,dL⟩));have fC:=ae dL;have HBK7:=ae (HBK W7 dL);have JP:=ae (JQ.aA dL fun _ _=>id);clear dL HBK fv;go_wp2_with (first|(go_at_call 21;refine HBK7.mono ?_;rintro e W8 ⟨v8,rfl,hv8,eT⟩;obtain⟨B8,c8,e8,hx8,hy8⟩:=hv8.shape;subst e8;have HSI:=ae (sameInts_self B8 B2 c8 c2 _ W8 hv8.at (JP.aA eT fun _ _=>id).at (Nat.le_trans hx8 hy8) HY5))|(go_at_call 27;refine HSI.mono ?_;rintro e W9 ⟨rfl,nn,rfl⟩));go_ret;exact⟨rfl,yq.trans ((fD.o.trans fC).trans (eT.drewN nn))⟩
        |true=>
         have hr0:=hr;unfold rnOk at hr;rw[Bool.and_eq_true,Bool.and_eq_true]at hr;obtain⟨hf,hPb,hq⟩:=hr;have hq:=of_decide_eq_true hq;have hPt:cK t:=Classical.byContradiction fun e=>by rw[fg e]at hPb;cases hPb
         have hq1:t.f 1=((cN c:Nat):Int):=by rw[HCK.out];exact hq
         have hNT:cN t=cN c:=by unfold cN;rw[hq]
         have fv:=ae (cli_renew_yes (M:=N.wE E) (K':=(aQ t 0 hPt hk)) fD.j.p (kp hPt hk) (km hPt hk) HIT6 hq1 (by rw[allF_any];show(!allF N.S (cN c))=false;rw[hf];rfl) hPt);have HAF:=ae hf;have DK:=ae hPt;have HNT:=ae hNT;clear hr0 hf hPb hq hq1 hNT;go_upto_region 26 with(first|(refine fH (ak t (.slice D t.h.length q)) tq Tryz.underlying25 ?_)|(go_at_call 29;refine fv.mono ?_;rintro e W7 ⟨a7,rfl,hal7,Yl,wH,dL⟩));have sV:=ae Yl;have hn7:=Yl.nn;have fC:=ae (fD.o.aC dL fun k hk=>.inr (by rw[←fD.B];exact fD.j.p.lo k hk));have CO:¬b6 a7 r.x:=fun e=>(wH r.x e).elim (fun e=>fD.j.sep r.x (.inl e) (.inl (.inr (.inl rfl)))) fun e=>by have:=fD.j.q.aq.lt;omega
         have HX7:=ae (dL.aq fD.j.q.aq fun e=>fD.j.sep r.x (.inl e) (.inl (.inr (.inl rfl))));have yn:(N.wE E).ops≤1000:=by have:=fD.p.ops;have:=Bi.out;show N.ops≤1000;omega
         have hD7:=mLevM_none (aQ t 0 hPt hk).sp t (cN t) (rnM (aQ t 0 hPt hk) (N.wE E)) 0 rfl;have DO:=vw (i:=0) (n:=0) (wr:=false) (d:=[]) Yl (by have:=hn7.1;omega) (by have:=hPt.p2;omega)
          (by unfold dJ;rw[if_neg (fun e=>e ⟨Int.le_refl _,by have:=hn7.1;have:=hn7.2.2;omega⟩),if_neg (fun e=>e ⟨Int.le_refl _,by have:=hPt.p2;omega⟩),if_neg (fun e=>by cases e.1),if_neg (fun e=>e (allF_at (S:=N.S) HAF.out (by have:=HNT.out;have:=hn7.1;omega)))])
          (cX.nil Z W7) (by show N.ops≤1000000;have:N.ops≤1000:=yn;omega) (by have:=fD.h1;have:=Bi.out;show E.length≤1000000;omega) (by show(aQ t 0 hPt hk).sp.eE (bG (aQ t 0 hPt hk).sp t (cN t) (rnM (aQ t 0 hPt hk) (N.wE E)) 0).s<bN;rw[hD7.1];show(aQ t 0 hPt hk).sp.eE (aQ t 0 hPt hk).s0<bN;rw[o8];decide)
         rw[hal7]at DO;have DO:=ae DO;have oF:=ae yn;have Gw:=ae CO;have HAL7:=ae hal7;clear Yl hn7 wH dL yn CO hD7 fv hal7;go_upto_region 27 with(go_at_call 13;refine DO.mono ?_;rintro e W8 ⟨v8,a8,rfl,hm8,UF,hs8⟩;obtain⟨A8,c8,e8,_,_⟩:=hm8.shape;subst e8);have HX8:=ae (hs8.o.aq HX7 Gw);have ix:=ae (fC.aC hs8.o fun k hk=>.inr (by rw[←fD.B];exact sV.lo k hk));have wF:=kT UF;have hal8:(aQ t 0 hPt hk).sp.all (bB (aQ t 0 hPt hk).sp t (cN t) (rnM (aQ t 0 hPt hk) (N.wE E)) 0 false ((0:Nat):Int) []).s= []:=(congrArg (aQ t 0 hPt hk).sp.all (mBeginM_none (aQ t 0 hPt hk).sp t (cN t) (rnM (aQ t 0 hPt hk) (N.wE E)) 0 ((0:Nat):Int) rfl)).trans (aQ t 0 hPt hk).nil;unfold rnM at hal8;rw[hal8,hs8.l,HAL7.out]at wF;have HBK:=ae wF;clear hm8 UF hs8 wF hal8;have Qd:IntKind.i64.wrap (((N.wE E).ops:Int)+1)=((N.wE E).ops:Int)+1:=by have:=oF.out;rw[IntKind.wrap_i64];omega
         go_wp2_with (go_at_call 21;refine HBK.mono ?_;rintro e W9 ⟨v9,rfl,hv9,nN⟩;obtain⟨B9,c9,e9,_,_⟩:=hv9.shape;subst e9;have FY:aw W9 r.x 20 ((N.wE E).ops:Nat):=(nN.aq HX8 id).af rfl);go_ret;exact⟨by simp,yq.trans (ix.trans nN)⟩
  ·have HN:=ae (wu hP W3 (kx.keep bn));go_wp2_with (first|(refine fH (ak c (.slice A c.h.length m)) dM Tryz.underlying25 ?_)|(go_at_call 11;refine HN.mono ?_;rintro e W4 ⟨rfl,cI⟩;have bK:=ae (bn.trans cI);clear cI));go_ret;exact⟨rfl,yq.trans bK⟩
end
end Go.Proofs.YtchofaecncibjaaGreat

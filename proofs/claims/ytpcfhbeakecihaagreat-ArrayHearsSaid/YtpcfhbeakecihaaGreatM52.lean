/- Lemmas. -/
import Derived.Test.YtpcfhbeakecihaaGreatM49
import Derived.Test.YtpcfhbeakecihaaGreatM50
import Derived.Test.YtpcfhbeakecihaaGreatM51
set_option linter.all false
set_option maxHeartbeats 20000000
set_option maxRecDepth 100000
namespace Go.Proofs.YtpcfhbeakecihaaGreat
open Go.ChangeShapes Go.RowKit Go.WideShapes
theorem ae9 {w:World}{adz:Nat}{x:vr}{dv:Value}(h:Box w adz 39 (Oy x dv)){j:Nat}{v:Value}(hj:(bd x.m dv).toList[j]? =some v):aM w adz (1+j) v:=by
 have aaS:j<11:=(List.getElem?_eq_some_iff.1 hj).1;refine h.ag ?_;rw[Array.getElem?_toList]at hj;rcases(show j=0∨j=1∨j=2∨j=3∨j=4∨j=5∨j=6∨j=7∨j=8∨j=9∨j=10 by omega)with rfl|rfl|rfl|rfl|rfl|rfl|rfl|rfl|rfl|rfl|rfl<;>exact hj
theorem bM.reZ {Z Z':ZN}{K:bj}{c:aQ}{a:lu K}{M:AM K.σ}{w w':World}(h:bM Z K c a M w)(ho:af au w w')(hB:Z'.B=Z.B)(hN:∀k,Z'.N k→w.heap.size≤k)(hl:∀k,Z'.N k→k<w'.heap.size):bM Z' K c a M w':=by
 have h':=h.keep ho;exact {
  ak:=h'.ak,jW:=h'.jW,dd:=h'.dd
  dn:=fun b l v hb k hk e=>by have:=hN k e;have:=h.jW.ltD hb k hk;omega
  kj:=h'.kj
  sn:=fun i hi k hk e=>by have:=hN k e;have:=h.kj.lH.lt (k:=k) (.inr (.inr ⟨i,hi,hk⟩));omega
  bL:=h'.bL
  lo:=fun k hk=>by rw[hB];exact h.lo k hk
  EY:=hl,fu:=h.fu,tX:=h.tX}
structure AhJ (c:aQ)(hP:dp c)(hk:2<3)(QW:Nat)(cv:Value)(k:Nat)(w:World)(n0:Nat)(o:ir (bg c 2 hP hk) c 2)(a:lu (bg c 2 hP hk))(r:RaA)(M:AM (bg c 2 hP hk).σ)(S:Cj)(Dr:Nat→List Int)(wr:World):Prop where
 b:bM ⟨w.heap.size,td o r.r⟩ (bg c 2 hP hk) c a M wr
 rb:adY ⟨w.heap.size,td o r.r⟩ o r M S Dr wr
 jf:(bg c 2 hP hk).sp.jf M.s≤2*k
 rd:M.reads≤k
 cf:Box wr QW 25 (ao c cv)
 pl:(∀k,ke a k→k<n0)∧a.sb<n0∧(0<c.h.length→∀k,aJ a.hv k→k<n0)
 rl:∀k,RaW o r k∨k=r.s.sb→n0≤k
 o:af au w wr
theorem AhJ.keep {c:aQ}{hP:dp c}{hk:2<3}{QW:Nat}{cv:Value}{k:Nat}{w:World}{n0:Nat}{o:ir (bg c 2 hP hk) c 2}{a:lu (bg c 2 hP hk)}{r:RaA}{M:AM (bg c 2 hP hk).σ}{S:Cj}{Dr:Nat→List Int}{wr w':World}(h:AhJ c hP hk QW cv k w n0 o a r M S Dr wr)(ho:af au wr w'):AhJ c hP hk QW cv k w n0 o a r M S Dr w':=
 ⟨h.b.keep ho,h.rb.keep ho,h.jf,h.rd,ho.ak h.cf id,h.pl,h.rl,h.o.trans ho⟩
def AhR (c:aQ)(hP:dp c)(hk:2<3)(QW:Nat)(cv:Value)(ab adA n:Nat)(w:World)(iv:Value)(wr:World):Prop:=
 ∃(k n0:Nat) (o:ir (bg c 2 hP hk) c 2) (a:lu (bg c 2 hP hk)) (r:RaA) (M:AM (bg c 2 hP hk).σ) (S:Cj) (Dr:Nat→List Int),k≤n∧iv=ah k∧a.ab=ab∧r.x=adA∧QW<n0∧AhJ c hP hk QW cv k w n0 o a r M S Dr wr
def agZ (n:Nat)(w:World)(iv:Value)(wr:World):Prop:=∃j:Nat,j≤n∧iv=ah j∧af au w wr
section
theorem adV{P:Prop}(h:P:=by
 first|exact⟨KB1.out,KB2.out,k10,k11⟩|exact agB|exact agA|exact agz|exact agy):P:=h
theorem adQ{P:Prop}(h:P:=by
 first|exact⟨k18,k19,k20⟩|exact aC|exact agx|exact agw|exact agv):P:=h
theorem ae0 (c:aQ)(L:List vr)(A B:Option Addr)(m n:Nat)(w:World)(bL:aX w A c.h.length m c.h)(hL:kh w.heap.size w B L.length n L)(hLB:∀i,i<L.length→jX (L.getD i default).d):
 Calls Tryz.prog 6 #[.agg (ao c (.slice A c.h.length m)),.slice B L.length n] w fun e w'=>e= .returned (.bool true)∧af au w w':=by
 have rC:=ae bL;have HL:=ae hL;have rB:=ae hLB;have HMX:=ae<|Nat.le_trans hL.cap hL.max;have HMH:=ae<|Nat.le_trans bL.cap bL.max;have HB:=ae<|Box.fresh w 25 (ao c (.slice A c.h.length m));have HO:=ae<|(af.ai au w).alloc (.cells (ao c (.slice A c.h.length m)) 25);clear bL hL hLB
 go_enter Tryz.func6,Tryz.ntmps6
 go_upto_region 1 with fail;change Code.wp _ _ _ _ (w.alloc (.cells (ao c (.slice A c.h.length m)) 25));generalize w.alloc (.cells (ao c (.slice A c.h.length m)) 25)=W1 at *;obtain⟨QW,hcf⟩:∃QW,QW=w.heap.size:=⟨_,rfl⟩;rw[←hcf]at HB ⊢;have HCF:=ae hcf;clear hcf;go_upto_region 3 with(go_at_call 7;refine(RG W1).mono ?_;rintro e W2 ⟨rfl,bq⟩);have dG:=ae<|bq.ak HB id;have bu:=ae<|HO.trans bq;clear bq HB HO;have HLG:=ae<|Uo (cf:=c) (A:=A) (m:=m) (HL.keep bu) HMH;go_upto_if 19 with(first|(refine iy (ao c (.slice A c.h.length m)) dG Tryz.underlying25 ?_)|(go_at_call 8;refine HLG.mono ?_;rintro e W3 ⟨rfl,bV⟩));have hG:=ae<|bV.ak dG id;have bI:=ae<|bu.trans bV;clear bV dG bu HLG
 cases QQ:Fw c.h.length L with
 |true=>
  clear QQ;go_wp2;go_ret;exact⟨rfl,bI⟩
 |false=>
  obtain⟨_,hl2,MZ⟩:=ZJ QQ;have Q0:=ae hl2;have HL3:=ae MZ;clear QQ hl2 MZ;go_upto_region 5 with fail
  by_cases hP:dp c
  ·skip
   refine gg (fun w':World=>Box w' QW 25 (ao c (.slice A c.h.length m))) 7 ?_ ?_
   ·first|exact hG.drew|exact sc|exact Vn.cf
   intro aC;refine aB (i:=0) (v:=.agg (ao c (.slice A c.h.length m))) aS rfl aS (fun _ _ _ h=>h) (yieldsIf_load_mid (by rfl) 25 _ rfl QW 0 (by rfl) (ao c (.slice A c.h.length m)).toList _ (fun w' hw j v hj=>by rw[Nat.zero_add];exact Box.ag hw (by rw[←Array.getElem?_toList];exact hj)) Tryz.underlying25 rfl aS) (by assumption) ?_;refine dU ?_;refine cX 1 fun Kc hK=>?_
   go_simp;refine(O3 W3.drew).mono ?_;rintro e W4 ⟨db,lb,rfl,hd4,afh,afi,ey⟩;have Kh:=ae hd4;have afI:=aq (W3.heap.size≤lb∧W3.heap.size≤db) (⟨afh,afi⟩);have sc:=ae<|ey.ak hG.drew id;have cr:=ae<|bI.drew.trans ey;have afC:=aq (w.heap.size≤W3.heap.size) (bI.size);clear hd4 afh afi ey;refine dy hK ?_ fun aC=>?_
   ·first|exact hG.drew|exact sc|exact Vn.cf
   clear hK;refine cX 2 fun Kc hK=>?_
   go_simp;have HN:=ae<|aar (Z:=⟨w.heap.size,fun _=>False⟩) (ZM hP (by decide:2<3)) (aal hP (by decide:2<3)) hP W4 (rC.keep cr) Kh rfl rfl (fun i x hx=>by cases hx) (fun _ _ _ _=>id) (by have h1:=afI.out;have h2:=afC.out;have h3:=cr.size;exact⟨by show w.heap.size≤db;omega,by show w.heap.size≤lb;omega,h3⟩) (fun k h=>h.elim);refine HN.mono ?_;rintro e W5 ⟨a0,he5,had,fW,h5,o5,QJ⟩;obtain⟨ab,fS⟩:∃ab,a0.ab=ab:=⟨_,rfl⟩;rw[fS]at he5;subst he5;have lj:=ae fS;have wT:=ae<|ZO (k:=2) (hP:=hP) (hk:=(by decide:2<3));have Vn:=aq (N6 (hP:=hP) (hk:=(by decide:2<3)) QW (.slice A c.h.length m) 0 w a0 _ W5) (⟨h5,by show(bg c 2 hP aE).sp.jf (bg c 2 hP aE).s0≤_;rw[wT.out];exact fH _,dX _,o5.ak sc (fun e=>by have h1:=sc.out;rcases e with e|e;(rw[e]at h1;exact absurd (h1.same Kh.ak).1 aE);(rw[e]at h1;exact absurd (h1.same Kh.row).1 aE)),cr.aG o5 fun k hk=>.inr (by have h1:=afI.out;have h2:=afC.out;rcases hk with e|e<;>omega)⟩);have rz:=ae QJ;clear had fW h5 o5 fS QJ HN;refine dy hK ?_ fun aC=>?_
   ·first|exact hG.drew|exact sc|exact Vn.cf
   clear hK;refine bE [3,4,5,6] ?_;refine dE ?_;have HRT:=ae<|aeO A c.h.length m c W5 (rC.keep Vn.o);rw[Ch hP]at HRT;have HKG:=aq (aej (bg c 2 hP aE) (bg c 2 hP aE).s0) (⟨a0.i,W5,Vn.b.jW.ord⟩);have HC5:=ae Vn.cf;go_upto_region 8 with(first|(refine iy (ao c (.slice A c.h.length m)) HC5 Tryz.underlying25 ?_)|(go_at_call 21;refine HRT.mono ?_;rintro e W6 ⟨rfl,fI⟩));have HQ6:=ae<|Vn.keep fI;have HC6:=ae HQ6.cf;have uv:=ae<|agb hP aE HKG (B:=w.heap.size) W6 (rC.keep HQ6.o) HQ6.o.size;clear fI HRT Vn HC5 aC;go_upto_region 9 with(first|(refine iy (ao c (.slice A c.h.length m)) HC6 Tryz.underlying25 ?_)|(go_at_call 22;refine uv.mono ?_;rintro e W7 ⟨o,r,he7,hr7,agk,l4⟩;obtain⟨adA,Ny⟩:∃adA,r.x=adA:=⟨_,rfl⟩;rw[Ny]at he7;subst he7;have HXB:=ae Ny;have w8:=ae hr7;have af3:=ae agk;have pz:=ae l4;clear Ny hr7 agk l4));have Kf:=aq (AhJ c hP aE QW (.slice A c.h.length m) 0 w W6.heap.size o a0 r _ (rs0 c) (fun _=>[]) W7) (⟨HQ6.b.reZ pz rfl (fun k hk=>af3 k (.inl (.inl hk))) (fun k hk=>w8.RW (.inl hk)),w8,HQ6.jf,HQ6.rd,pz.ak HQ6.cf id,⟨fun k hk=>HQ6.b.RW hk,HQ6.b.kj.ak.lt,HQ6.b.aY⟩,af3,HQ6.o.trans pz⟩);have agU:=aq (QW<W6.heap.size) (HQ6.cf.lt);clear uv HQ6 HC6 w8 af3 pz cr Kh afI afC wT rz;go_wp2_with fail
   go_loopw [39] (fun iv wr=>AhR c hP aE QW (.slice A c.h.length m) ab adA L.length w iv wr) (fun iv _=>L.length - (intOf iv).toNat)
   case atStart=>exact⟨0,_,o,a0,r,_,_,_,fH _,rfl,lj,HXB,agU,Kf⟩
   case round=>
    clear Kf agU lj HXB HKG;obtain⟨k,n0,o,a,r,M,S,Dr,Wh,rfl,fS,Ny,agr,hJ⟩:=hrel;subst fS Ny;have HI0:=ae hJ;have agT:=ae agr;clear hJ agr
    by_cases aY:k<L.length
    ·skip
     obtain⟨g,adB,dv,rfl,hg,pE,iq,bf⟩:=(HL.keep HI0.o).at_ k aY;have jk:(k:Int)<L.length:=aj;have aft:(k:Int)<1000:=by have:=Q0.out;omega
     have cD:=ae aY;have HK1:=ae (show k<100 by have:=Q0.out;omega);have yX:=ae<|rB k aY;have HLX:=ae<|HL3 k aY;have Q5:=ae pE;have af2:=aq (∀k,RaW o r k→k<wr.heap.size) (fun k hk=>HI0.rb.RW hk);have HDD:=aq (qR ⟨w.heap.size,td o r.r⟩ wr dv (L.getD k default).d) (⟨iq,fun h0 k hk=>.inl (bf k h0 hk)⟩);clear pE aY Wh iq bf;generalize L.getD k default=x at *;obtain⟨dA,dc,rfl⟩:=HDD.shape;have HRC:=aq (∀j v,(Oy x (.slice dA x.d.length dc)).toList[j]? =some v→aM wr g (adB+k*12+j) v) (fun j v hj=>Q5 j v (by rw[←Array.getElem?_toList];exact hj));go_upto_region 12 with(first|(refine wpList_load_mid rfl 39 _ rfl g (adB+k*12) rfl (Oy x (.slice dA x.d.length dc)).toList _ HRC Tryz.underlying39 rfl aS ?_)|(refine iP (Oy x (.slice dA x.d.length dc)) (Box.fresh wr 39 acg) (ZY _ _ _ _) ?_));have fI:af au wr ((wr.alloc (.cells acg 39)).setRow wr.heap.size (Oy x (.slice dA x.d.length dc))):=((af.ai au wr).alloc _).aw (.inr (dX _)) _;have cj:=ae<|(Box.fresh wr 39 acg).aw (Oy x (.slice dA x.d.length dc));have HI:=ae<|HI0.keep fI;have HDA:=ae<|HDD.keep fI;change Code.wp _ _ _ _ ((wr.alloc (.cells acg 39)).setRow wr.heap.size (Oy x (.slice dA x.d.length dc)));clear fI HI0 HDD Q5 HRC;generalize(wr.alloc (.cells acg 39)).setRow wr.heap.size (Oy x (.slice dA x.d.length dc))=W8 at *;generalize wr.heap.size=adz at *
     try simp only[Act.put]
     have HMC:=ae<|fun j v (hj:(bd x.m (.slice dA x.d.length dc)).toList[j]? =some v)=>ae9 cj hj;go_upto_region 13 with(first|(refine wpList_load_mid rfl 37 _ rfl adz 1 rfl (bd x.m (.slice dA x.d.length dc)).toList _ HMC Tryz.underlying37 rfl aS ?_)|(refine iP (bd x.m (.slice dA x.d.length dc)) (Box.fresh W8 37 ace) (by simp[bd,Value.oneCell']) ?_));have QO:af au W8 ((W8.alloc (.cells ace 37)).setRow W8.heap.size (bd x.m (.slice dA x.d.length dc))):=((af.ai au W8).alloc _).aw (.inr (dX _)) _;have HMA:=ae<|(Box.fresh W8 37 ace).aw (bd x.m (.slice dA x.d.length dc));have HOA:=ae QO;have HBA:=ae<|QO.ak cj id;have af6:=ae<|HDA.keep QO;have afl:=aq (adz<W8.heap.size) (cj.lt);obtain⟨mb2,Kw⟩:∃mb2,mb2=W8.heap.size:=⟨_,rfl⟩;change Code.wp _ _ _ _ ((W8.alloc (.cells ace 37)).setRow W8.heap.size (bd x.m (.slice dA x.d.length dc)));rw[←Kw]at HMA HOA HBA af6 afl ⊢;have HML:=aq (W8.heap.size≤mb2∧mb2≤W8.heap.size) (⟨Nat.le_of_eq Kw.symm,Nat.le_of_eq Kw⟩);clear QO Kw HMC;generalize(W8.alloc (.cells ace 37)).setRow mb2 (bd x.m (.slice dA x.d.length dc))=adC at *
     try simp only[Act.put]
     have y11:aM adC adz 11 (.slice dA x.d.length dc):=HBA.ag rfl;have ag6:aM (adC.alloc (.cells #[] 5)) adz 11 (.slice dA x.d.length dc):=((af.ai au adC).alloc (.cells #[] 5)).cell y11 id;have iD:Src (adC.alloc (.cells #[] 5)) dA (bytes x.d):=by
      obtain⟨A',c',e,_,_,h⟩:=(af6.keep ((af.ai au adC).alloc (.cells #[] 5))).1;injection e with e1 _ _;subst e1;exact h
     have DF:=ae iD;have Ve:=aq (x.d.length≤100) (HLX);have gY:Row 5 (adC.alloc (.cells #[] 5)) (bp adC.heap.size 0 0) []:=.inr ⟨adC.heap.size,0,#[],rfl,Box.fresh adC 5 #[],dX _,dX _,fH _,rfl⟩;have agG:=ae gY;have b8:=ae (show([]:List Value).length+(bytes x.d).length≤maxLen by rw[qD];have:=Ve.out;unfold maxLen;simp;omega);have dG:=ae (show(([]:List Value).length+(bytes x.d).length)*1≤140737488355328 by rw[qD];have:=Ve.out;simp;omega);clear iD gY;go_upto_region 14 with(at_builtin;refine bA _ rfl (.tmp 45) (.tmp 48) 35 5 rfl fC rfl Tryz.underlying35 (bp adC.heap.size 0 0) [] rfl agG dA x.d.length dc (bytes x.d) rfl (by rw[qD]) DF (qK x.d) b8 dG ?_;intro adD adE kJ bq AX _;have JG:=ae kJ;have Di:=ae<|((af.ai au adC).alloc (.cells #[] 5)).aG bq fun k hk=>.inr ad5;have HKW:=aq (∀k,aJ adD k→adC.heap.size≤k) (fun k hk=>(AX k hk).elim (fun h=>by rw[aD]at h;omega) fun h=>by rw[World.size_alloc]at h;omega);clear kJ bq AX;rw[List.nil_append]at JG;obtain⟨adF,wc,ew,_,_⟩:=JG.shape;rw[qD]at ew;subst ew;have z10:aM adE mb2 10 (.slice dA x.d.length dc):=(Di.ak HMA id).ag rfl;have g10:adE.frozen? ⟨mb2,10,none⟩=false:=(Di.ak HMA id).free _);have hjb:af (az mb2) adE (adE.setCell ⟨mb2,10,none⟩ (.slice adF x.d.length wc)):=(af.ai (az mb2) adE).setCell (p:=⟨mb2,10,none⟩) (.inl (show az mb2 mb2 from rfl)) _;have tY:Box adE mb2 37 (bd x.m (.slice dA x.d.length dc)):=Di.ak HMA id;have agQ:=aq (Box (adE.setCell ⟨mb2,10,none⟩ (.slice adF x.d.length wc)) mb2 37 (bd x.m (.slice adF x.d.length wc))) (tY.store 10 _);have agP:=ae (hjb.ak (Di.ak HBA id) fun e=>by have h1:=afl.out;have h2:adz=mb2:=e;omega);have afW:af au W8 (adE.setCell ⟨mb2,10,none⟩ (.slice adF x.d.length wc)):=(HOA.trans Di).setCell (p:=⟨mb2,10,none⟩) (.inr HML.1) _;have HIx:=ae<|HI.keep afW;have agR:=ae<|HDA.keep afW;have agi:Row 5 (adE.setCell ⟨mb2,10,none⟩ (.slice adF x.d.length wc)) (.slice adF x.d.length wc) (bytes x.d):=JG.ar hjb fun k hk e=>by
      obtain⟨cs,h2⟩:=JG.ak hk;rw[show k=mb2 from e]at h2;exact absurd (h2.same tY).1 aE
     have SC:=aq (qR ⟨w.heap.size,td o r.r⟩ (adE.setCell ⟨mb2,10,none⟩ (.slice adF x.d.length wc)) (.slice adF x.d.length wc) x.d) (qR.row agi eY fun k hk e=>by have h1:=HKW.out k hk;have h2:=af2.out k (.inl e);have h3:=afl.out;have h4:=HML.out;have h5:=HOA.size;omega);change Code.wp _ _ _ _ (adE.setCell ⟨mb2,10,none⟩ (.slice adF x.d.length wc));clear y11 ag6 z10 g10 hjb tY afW agi HI HDA cj HMA HOA HBA af6 DF agG b8 dG Di JG HKW;have HXN:=aq (¬RaW o r mb2∧¬RaW o r adz) (⟨fun e=>by have h2:=af2.out mb2 e;have h3:=afl.out;have h4:=HML.out;omega,fun e=>by have h2:=af2.out adz e;omega⟩);generalize adE.setCell ⟨mb2,10,none⟩ (.slice adF x.d.length wc)=W9 at *;have HI:=ae HIx;have HDA:=ae agR;have KB1:=aq (Box W9.drew mb2 37 (bd x.m (.slice adF x.d.length wc))) (agQ);have KB2:=aq (Box W9.drew adz 39 (Oy x (.slice dA x.d.length dc))) (agP);have k10:aM W9.drew mb2 10 (.slice adF x.d.length wc):=KB1.out.ag rfl;have k11:aM W9.drew adz 11 (.slice dA x.d.length dc):=KB2.out.ag rfl;have Ss:=aq (∀k,RaW o r k→k<W9.heap.size) (fun k hk=>HI.rb.RW hk);clear HIx agR agQ agP HML afl;obtain⟨M2,hM2⟩:∃M2,cN (bg c 2 hP aE).sp c (br c) M x.m x.d=M2:=⟨_,rfl⟩;obtain⟨adG,hT2⟩:∃adG,dK (bg c 2 hP aE).sp c (br c) M x.m x.d=adG:=⟨_,rfl⟩;have hhr:=ZV (m:=x.m) (HI.b.keep ((af.ai au W9).drew)) (SC.keep ((af.ai au W9).drew)) yX (by have h1:=HI.jf;have h2:=HK1.out;unfold da;omega) (by have h1:=HI.rd;have h2:=HK1.out;omega);have hag:=VR (K:=(bg c 2 hP aE)) (c:=c) (M:=M) (t:=x.d) a.i (br c) x.m;unfold uz at hhr;rw[hM2,hT2]at hhr;rw[hM2]at hag;have HHR:=ae hhr;have Gv:=ae hag;have HMM:=ae hM2;have AE:=ae hT2;clear hhr hag hM2 hT2;refine gg (fun w':World=>Box w' mb2 37 (bd x.m (.slice adF x.d.length wc))∧Box w' adz 39 (Oy x (.slice dA x.d.length dc))∧aM w' mb2 10 (.slice adF x.d.length wc)∧aM w' adz 11 (.slice dA x.d.length dc)) 17 ?_ ?_
     ·exact adV
     intro aC;refine bE [0] ?_;refine aB (i:=1) (v:=.agg (bd x.m (.slice adF x.d.length wc))) aS rfl aS (fun _ _ _ h=>h) (yieldsIf_load_mid (by rfl) 37 _ rfl mb2 0 (by rfl) (bd x.m (.slice adF x.d.length wc)).toList _ (fun w' hw j v hj=>by rw[Nat.zero_add];exact Box.ag hw.1 (by rw[←Array.getElem?_toList];exact hj)) Tryz.underlying37 rfl aS) (by assumption) ?_;refine dU ?_;refine bE [3,4] ?_;refine aB (i:=5) (v:=.agg (bd x.m (.slice dA x.d.length dc))) aS rfl aS (fun _ _ _ h=>h) (yieldsIf_load_mid (by rfl) 37 _ rfl adz 1 (by rfl) (bd x.m (.slice dA x.d.length dc)).toList _ (fun w' hw j v hj=>ae9 hw.2.1 hj) Tryz.underlying37 rfl aS) (by assumption) ?_;refine dU ?_;refine cX 2 fun Kc hK=>?_
     go_simp;refine HHR.mono ?_;rintro e sf ⟨u1,rfl,afY,D10,V10,WN,o10⟩;obtain⟨adH,adI,adJ,_,_⟩:=afY.shape;subst adJ;have agB:((fun w':World=>Box w' mb2 37 (bd x.m (.slice adF x.d.length wc))∧Box w' adz 39 (Oy x (.slice dA x.d.length dc))∧aM w' mb2 10 (.slice adF x.d.length wc)∧aM w' adz 11 (.slice dA x.d.length dc)):World→Prop) sf:=⟨o10.ak aC.1 (fun e=>absurd (HI.b.Ns e aC.1) aE),o10.ak aC.2.1 (fun e=>absurd (HI.b.Ns e aC.2.1) aE),o10.cell aC.2.2.1 (fun e=>absurd (HI.b.Ns e aC.1) aE),o10.cell aC.2.2.2 (fun e=>absurd (HI.b.Ns e aC.2.1) aE)⟩;have af5:=ae afY;have OT:=ae WN;have Bx:=ae o10;have Bu:=ae<|(HI.rb.keep ((af.ai au W9).drew)).off o10 (fun k hk e=>by have h1:=HI.pl.1 k e;have h2:=HI.rl k (.inl hk);omega) (fun e=>by have h1:=HI.pl.1 _ e;have h2:=HI.rl _ (.inr rfl);omega) fun k cs e=>⟨fun hb=>absurd ((HI.b.keep ((af.ai au W9).drew)).Ns e hb) aE,fun hb=>absurd ((HI.b.keep ((af.ai au W9).drew)).Ns e hb) aE⟩;have YJ:=ae<|(HDA.keep ((af.ai au W9).drew)).ar o10 (HI.b.keep ((af.ai au W9).drew)).wr;have OQ:=ae<|(SC.keep ((af.ai au W9).drew)).ar o10 (HI.b.keep ((af.ai au W9).drew)).wr;have agW:=ae<|o10.ak (show Box W9.drew QW 25 (ao c (.slice A c.h.length m))from HI.cf) fun e=>absurd ((HI.b.keep ((af.ai au W9).drew)).Ns e (show Box W9.drew QW 25 (ao c (.slice A c.h.length m))from HI.cf)) aE;have ag5:=ae o10.size;have hrh:=afM (m:=x.m) Bu YJ (by have h1:=HI.jf;have h2:=HK1.out;unfold da;omega) (by have h1:=HI.rd;have h2:=HK1.out;omega);rw[HMM.out,AE.out]at hrh;have HRH:=ae hrh;clear afY WN o10 hrh;refine dy hK ?_ fun aC=>?_
     ·exact adV
     clear hK;refine cX 6 fun Kc hK=>?_
     go_simp;refine HRH.mono ?_;rintro e kq ⟨u2,agY,agC,S11,rfl,afX,h11,o11⟩;obtain⟨Av,cv,ev,_,_⟩:=afX.shape;subst ev;have agA:((fun w':World=>Box w' mb2 37 (bd x.m (.slice adF x.d.length wc))∧Box w' adz 39 (Oy x (.slice dA x.d.length dc))∧aM w' mb2 10 (.slice adF x.d.length wc)∧aM w' adz 11 (.slice dA x.d.length dc)):World→Prop) kq:=⟨o11.ak aC.1 HXN.1,o11.ak aC.2.1 HXN.2,o11.cell aC.2.2.1 HXN.1,o11.cell aC.2.2.2 HXN.2⟩;have agO:=ae afX;have agJ:=ae h11;have afS:=ae (af5.ar o11 Bu.wr fun k hk e=>by have h1:=(af5.ak hk).1;have h2:=Ss.out k e;have h3:W9.drew.heap.size=W9.heap.size:=rfl;omega);have YU:=ae (OT.off o11 Bu.wr (fun k hk e=>by have h1:=HI.pl.1 k hk;have h2:=HI.rl k (.inl e);omega) (fun e=>by have h1:=HI.pl.2.1;have h2:n0≤a.sb:=HI.rl _ (.inl e);omega) fun h0 k hk e=>by have h1:=HI.pl.2.2 h0 k hk;have h2:=HI.rl k (.inl e);omega);have agS:=ae<|YJ.ar o11 Bu.wr;have YD:=ae<|OQ.ar o11 Bu.wr;have agV:=ae (o11.ak agW fun e=>by have h1:=HI.rl _ (.inl e);have h2:=agT.out;omega);have Yx:=ae (((HI.o.drew).aG Bx fun k hk=>.inr ((HI.b.keep ((af.ai au W9).drew)).lo k hk)).aG o11 fun k hk=>.inr (by
      rcases hk with e|e|e
      ·exact Bu.adl.lo k e
      ·exact Bu.lo k (.inl e)
      ·exact Bu.lo k (.inr e)))
     clear afX h11 o11;refine dy hK ?_ fun aC=>?_
     ·exact adV
     clear hK;refine cX 7 fun Kc hK=>?_
     go_simp;refine(afc afS agO).mono ?_;rintro e uG ⟨rfl,Oe⟩;have agz:((fun w':World=>Box w' mb2 37 (bd x.m (.slice adF x.d.length wc))∧Box w' adz 39 (Oy x (.slice dA x.d.length dc))∧aM w' mb2 10 (.slice adF x.d.length wc)∧aM w' adz 11 (.slice dA x.d.length dc)):World→Prop) uG:=⟨Oe.ak aC.1 id,Oe.ak aC.2.1 id,Oe.cell aC.2.2.1 id,Oe.cell aC.2.2.2 id⟩;have afG:=ae Oe;clear Oe;refine dy hK ?_ fun aC=>?_
     ·exact adV
     clear hK;refine bE [8,9,10,11,12,13,14] ?_;refine cX 15 fun Kc hK=>?_
     go_simp;have MW:=BS _ _ x.d x.d uG (YD.keep afG).1 (agS.keep afG).1;rw[show decide (x.d=x.d)=true by simp]at MW;refine MW.mono ?_;rintro e NQ ⟨rfl,nq,rfl⟩;have agy:((fun w':World=>Box w' mb2 37 (bd x.m (.slice adF x.d.length wc))∧Box w' adz 39 (Oy x (.slice dA x.d.length dc))∧aM w' mb2 10 (.slice adF x.d.length wc)∧aM w' adz 11 (.slice dA x.d.length dc)):World→Prop) (uG.drewN nq):=⟨((af.ai au uG).drewN nq).ak aC.1 id,((af.ai au uG).drewN nq).ak aC.2.1 id,((af.ai au uG).drewN nq).cell aC.2.2.1 id,((af.ai au uG).drewN nq).cell aC.2.2.2 id⟩;have afk:=ae<|afG.drewN nq;clear MW;refine dy hK ?_ fun aC=>?_
     ·exact adV
     clear hK;refine bE [16] ?_;refine dE ?_;clear aC agB agA agz agy k10 k11 KB1 KB2;have HJx:=aq (AhJ c hP aE QW (.slice A c.h.length m) (k+1) w n0 o {a with D:=D10,V:=V10} {r with s:={r.s with dv:=agC}} M2 S11 agY (uG.drewN nq)) (⟨YU.keep afk,agJ.keep afk,by have h1:=HI.jf;have h2:=Gv.1;omega,by have h1:=HI.rd;have h2:=Gv.2;omega,afk.ak agV id,HI.pl,HI.rl,Yx.trans afk⟩);clear HI Bu OT Bx af5 YJ OQ agW ag5 HRH agO agJ afS YU agS YD agV Yx afG afk HHR Gv HMM AE HDA SC Ss HXN;generalize uG.drewN nq=NQ at *;have HJ:=ae HJx;clear HJx;go_upto_region 16 with fail;have k18:aM NQ.drew r.x 18 (aO r.r.cb):=HJ.rb.ak.ag rfl;have k19:aF NQ.drew r.x 19 M2.reads:=HJ.rb.ak.ag rfl;have k20:aF NQ.drew a.ab 20 M2.reads:=HJ.b.ak.ag rfl;have Q3:=ae HJ.rb.dn;refine gg (fun w':World=>aM w' r.x 18 (aO r.r.cb)∧aF w' r.x 19 M2.reads∧aF w' a.ab 20 M2.reads) 21 ?_ ?_
     ·exact adQ
     intro aC;refine bE [0,2,3,4,5] ?_;refine cX 1 fun Kc hK=>?_
     go_simp;refine(Uu (HJ.b.keep ((af.ai au NQ).drew))).mono ?_;rintro e QX ⟨v1,rfl,afV,afg⟩;obtain⟨A14,WS,WQ,agt,agq⟩:=afV.shape;subst WQ;have agx:=And.intro (afg.cell aC.1 id) (And.intro (afg.cell aC.2.1 id) (afg.cell aC.2.2 id));have agI:=ae afV;have agN:=ae<|Nat.le_trans agt agq;have Yw:=ae<|((af.ai au NQ).drew).trans afg;clear afV afg agt agq;refine dy hK ?_ fun aC=>?_
     ·exact adQ
     clear hK;refine cX 6 fun Kc hK=>?_
     go_simp;refine(aga (HJ.rb.adl.keep Yw)).mono ?_;rintro e W15 ⟨v2,rfl,afU,afb⟩;obtain⟨A15,c15,e15,ags,agp⟩:=afU.shape;subst e15;have agw:=And.intro (afb.cell aC.1 id) (And.intro (afb.cell aC.2.1 id) (afb.cell aC.2.2 id));have agH:=ae afU;have agM:=ae<|Nat.le_trans ags agp;have afR:=ae<|agI.ar afb fun _ _=>id;have agL:=ae<|Yw.trans afb;clear afU afb ags agp;refine dy hK ?_ fun aC=>?_
     ·exact adQ
     clear hK;refine cX 7 fun Kc hK=>?_
     go_simp;have hsi:=xt A14 A15 _ _ WS c15 _ _ W15 afR.at agH.at agN agM;rw[decide_eq_true rfl]at hsi;refine hsi.mono ?_;rintro e W16 ⟨rfl,adK,rfl⟩;have hq:=(af.ai au W15).drewN adK;have agv:=And.intro (hq.cell aC.1 id) (And.intro (hq.cell aC.2.1 id) (hq.cell aC.2.2 id));have af4:=ae<|agL.trans hq;clear hq hsi;refine dy hK ?_ fun aC=>?_
     ·exact adQ
     clear hK;refine bE [8,9,10,12,13,14,15] ?_;refine cX 11 fun Kc hK=>?_
     go_simp;refine(Jg _ aC.2.2).mono ?_;rintro e W17 ⟨rfl,rfl⟩;refine dy hK ?_ fun aC=>?_
     ·exact adQ
     clear hK;refine bE [16,17,18,19] ?_;refine cX 20 fun Kc hK=>?_
     go_simp;have E9:=ZX (HJ.b.keep af4);rw[Q3.out]at E9;refine E9.mono ?_;rintro e W18 ⟨rfl,rfl⟩;refine dy hK ?_ fun aC=>?_
     ·exact adQ
     clear hK;refine dE ?_;clear aC agx agw agv k18 k19 k20;go_upto_region 18 with fail;have hjx:=HJ.keep af4;clear HJ agI agN Yw agH agM afR agL af4 Q3;generalize W15.drewN adK=W18 at *;have HJ:=ae hjx;clear hjx;have y2:aF W18 QW 2 (c.f 2):=HJ.cf.ag (aL c _ aE);have JK:=ae<|aeB hP;go_upto_region 19 with fail;clear y2
     go_loopw [93] (fun iv wr=>agZ (nB c) W18 iv wr) (fun iv _=>nB c - (intOf iv).toNat)
     case atStart=>exact⟨0,fH _,rfl,af.ai _ _⟩
     case round=>
      obtain⟨j,hj9,rfl,ho⟩:=hrel;have HOJ:=ae ho;have HJJ:=ae<|HJ.keep ho;clear ho
      by_cases NH:j<nB c
      ·have QR:(j:Int)<c.f 2:=by have:=JK.1;omega
       have ahn:(j:Int)<1000:=by have:=JK.2.2;omega
       have HJL:=ae NH;have je:=Us HJJ.b (j:Int);have Fa:=HJJ.rb.of.bl j NH;have aeK:0≤(j:Int)∧(j:Int)<c.f 2:=⟨Int.natCast_nonneg j,QR⟩;have hav:lp c M2.d (j:Int)=S11.lF j:=by unfold lp;rw[if_pos aeK,Int.toNat_natCast,Fa]
       have has:(ec c M2 (j:Int)).2=S11.kz j:=by unfold ec;rw[Int.toNat_natCast,Fa]
       rw[if_pos aeK,if_pos aeK,hav,has]at je;have bQ:=ae je;clear je Fa aeK hav has hj9;obtain⟨A20,c20,e20⟩:=(HJJ.rb.rs.kz j NH).shape;have XA:=aq (cH wr (.slice A20 (S11.kz j).length c20) (S11.kz j)) (by have h9:=(HJJ.rb.rs.kz j NH).sa;rw[e20]at h9;exact h9);have XD:=aq (∀W,af au wr W→aM W r.s.db j (.slice A20 (S11.kz j).length c20)) (fun W hW=>by have h9:=((HJJ.keep hW).rb.rs.ac0 NH).1;rw[e20]at h9;exact h9);clear e20 NH;go_upto_region 22 with(go_at_call 13;refine bQ.mono ?_;rintro e W20 ⟨vs,rfl,afB,agl,_⟩;obtain⟨A21,Vb,e21,_,_⟩:=afB.shape;subst e21;rw[b7]at afB;have ahk:=ae afB;have afF:=ae agl;clear afB agl);have afH:=ae<|HJJ.keep afF;have x17:aM W20 r.x 17 (aO r.s.sb):=afH.rb.ak.ag rfl;have adp:aM W20 r.s.sb 4 (bp r.s.vb (nB c) r.s.vc):=afH.rb.rs.ak.ag rfl;have ado:aM W20 r.s.sb 5 (bp r.s.db (nB c) r.s.dc):=afH.rb.rs.ak.ag rfl;have d4:aF W20 r.s.vb j ((S11.lF j:Nat):Int):=(afH.rb.rs.acZ HJL).1;have d5:=XD.out _ afF;have hjb:(j:Int)<(nB c:Nat):=by have:=HJL.out;omega
       have MW:=BS _ _ (S11.kz j) (S11.kz j) W20 (ahk.sa XA.len.2) (XA.ar afF fun _ _=>id);rw[show decide (S11.kz j=S11.kz j)=true by simp]at MW;have HSM:=ae MW;clear MW;have HRJ:=aq (∀W,af au W20 W→agZ (nB c) W18 (ah ((j:Int)+1)) W) (fun W hW=>⟨j+1,HJL,by simp,(HOJ.trans afF).trans hW⟩);go_wp2_with (go_at_call 15;refine HSM.mono ?_;rintro e NP ⟨rfl,m21,rfl⟩;have HRK:=ae (HRJ _ ((af.ai au W20).drewN m21)))
       go_roundw
       case rel=>(repeat first|exact HRK|(refine⟨HRK,?_⟩;(repeat(first|exact rfl|refine⟨rfl,?_⟩)))|apply Exists.intro)
       case measure=>simp[intOf];have:=HJL.out;omega
      ·obtain rfl:j=nB c:=aj;have QR:¬((nB c:Nat):Int)<c.f 2:=by have:=JK.1;omega
       have Ss:=aq (AhR c hP aE QW (.slice A c.h.length m) a.ab r.x L.length w (ah ((k:Int)+1)) wr) (⟨k+1,n0,o,{a with D:=D10,V:=V10},{r with s:={r.s with dv:=agC}},M2,S11,agY,cD,by simp,rfl,rfl,agT,HJJ⟩);clear hj9 NH;exact aeb
    ·obtain rfl:k=L.length:=aj;go_wp2_with fail;go_ret;exact⟨rfl,HI0.o⟩
  ·skip
   refine gg (fun w':World=>Box w' QW 25 (ao c (.slice A c.h.length m))) 7 ?_ ?_
   ·first|exact hG.drew|exact sc|exact Km
   intro aC;refine aB (i:=0) (v:=.agg (ao c (.slice A c.h.length m))) aS rfl aS (fun _ _ _ h=>h) (yieldsIf_load_mid (by rfl) 25 _ rfl QW 0 (by rfl) (ao c (.slice A c.h.length m)).toList _ (fun w' hw j v hj=>by rw[Nat.zero_add];exact Box.ag hw (by rw[←Array.getElem?_toList];exact hj)) Tryz.underlying25 rfl aS) (by assumption) ?_;refine dU ?_;refine cX 1 fun Kc hK=>?_
   go_simp;refine(O3 W3.drew).mono ?_;rintro e W4 ⟨db,lb,rfl,hd4,afh,afi,ey⟩;have Kh:=ae hd4;have afI:=aq (W3.heap.size≤lb∧W3.heap.size≤db) (⟨afh,afi⟩);have sc:=ae<|ey.ak hG.drew id;have cr:=ae<|bI.drew.trans ey;have afC:=aq (w.heap.size≤W3.heap.size) (bI.size);clear hd4 afh afi ey;refine dy hK ?_ fun aC=>?_
   ·first|exact hG.drew|exact sc|exact Km
   clear hK;refine cX 2 fun Kc hK=>?_
   go_simp;have HN:=ae<|Ut (db:=db) hP W4 (rC.keep cr);refine HN.mono ?_;rintro e W5 ⟨rfl,fz⟩;have ek:=ae<|cr.trans fz;have Km:=ae<|fz.ak sc id;clear fz HN;refine dy hK ?_ fun aC=>?_
   ·first|exact hG.drew|exact sc|exact Km
   clear hK;refine bE [3,4,5,6] ?_;refine dE ?_;have HRT:=ae<|aeO A c.h.length m c W5 (rC.keep ek);rw[eG hP]at HRT;go_wp2_with (first|(refine iy (ao c (.slice A c.h.length m)) Km Tryz.underlying25 ?_)|(go_at_call 21;refine HRT.mono ?_;rintro e W6 ⟨rfl,fI⟩));go_ret;exact⟨rfl,ek.trans fI⟩
end
end Go.Proofs.YtpcfhbeakecihaaGreat

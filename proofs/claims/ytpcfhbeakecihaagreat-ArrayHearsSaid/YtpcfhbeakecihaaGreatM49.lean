/- Lemmas. -/
import Derived.Test.YtpcfhbeakecihaaGreatM47
import Derived.Test.YtpcfhbeakecihaaGreatM48
set_option linter.all false
set_option maxHeartbeats 20000000
set_option maxRecDepth 100000
namespace Go.Proofs.YtpcfhbeakecihaaGreat
open Go.ChangeShapes Go.RowKit Go.WideShapes
theorem aeE {m:dI}{n:Nat}(h:mg m n=true){f:Nat}(h1:1≤f)(h8:f≤8):0≤m.f f∧m.f f≤Ov f:=by
 unfold mg at h;rw[Bool.and_eq_true,List.all_eq_true]at h;have h2:=h.2 (f - 1) (List.mem_range.2 aj);rw[show f - 1+1=f by omega]at h2;unfold ia okF at h2;rw[if_neg aj,if_neg aj]at h2;simp only[Bool.and_eq_true,decide_eq_true_eq]at h2;exact h2.1
theorem afN {m:dI}{n:Nat}(h:mg m n=true):WrG fun i=>m.f (i+1):=by
 have h1:=aeE h (f:=1) aE aE;have h2:=aeE h (f:=2) aE aE;have h3:=aeE h (f:=3) aE aE;have h4:=aeE h (f:=4) aE aE;have h5:=aeE h (f:=5) aE aE;exact⟨h1.1,h2.1,h3.1,h3.2,h4.1,h4.2,h5.1⟩
theorem RaQ.back {K:bj}{c:aQ}{Z:ZN}{o:ir K c 2}{a:RaA}{M':AM K.σ}{T:List PM}{w w1 w':World}{e:Ending}(ho:af au w w1)(h:RaQ Z o a M' T w1 e w'):RaQ Z o a M' T w e w':=by
 obtain⟨u,Dr',dv,S',h1,h2,h3,h4⟩:=h;exact⟨u,Dr',dv,S',h1,h2.low ho.size,h3,(ho.mono (S':=RaW o a) fun _ e=>e.elim).trans h4⟩
section
variable {c:aQ}{hP:dp c}{hk:2<3}{Z:ZN}{o:ir (bg c 2 hP hk) c 2}{a:RaA}{M:AM (bg c 2 hP hk).σ}{S:Cj}{Dr:Nat→List Int}{w:World}{m:dI}{t:List Int}{A:Option Addr}{cp:Nat}
theorem ad9{P:Prop}(h:P:=by
 go_wp2_with fail;go_ret;exact⟨_,Dr,a.s.dv,S,rfl,by rw[HT.2];exact bO.nil _ _ _,by rw[HT.1];exact H2,bu.mono fun _ e=>e.elim⟩):P:=h
theorem aev{P:Prop}(h:P:=by
 clear h8 h9 WN hm c4;exact ad9):P:=h
theorem afM (h:adY Z o a M S Dr w)(hd:qR Z w (.slice A t.length cp) t)(cV:(bg c 2 hP hk).sp.jf M.s+1<da)(E4:M.reads<1000000):
 Calls Tryz.prog 24 #[aO a.x,.agg (bd m (.slice A t.length cp))] w (RaQ Z o a (cN (bg c 2 hP hk).sp c (br c) M m t) (dK (bg c 2 hP hk).sp c (br c) M m t) w):=by
 have HH:=ae h;have Gv:=ae cV;have AH:=ae E4;have fW:=(af.ai au w).alloc (.cells (bd m (.slice A t.length cp)) 37);have bc:=ae fW;have AJ:=ae<|Box.fresh w 37 (bd m (.slice A t.length cp));have H1:=ae<|h.keep fW;have Ki:=ae<|hd.keep fW;have Xj:=aq (¬RaW o a w.heap.size) (fun e=>by have:=h.RW e;omega);clear h hd cV E4 fW
 go_enter Tryz.func24,Tryz.ntmps24
 go_upto_region 1 with fail;change Code.wp _ _ _ _ (w.alloc (.cells (bd m (.slice A t.length cp)) 37));generalize w.alloc (.cells (bd m (.slice A t.length cp)) 37)=W1 at *;obtain⟨qb,qY⟩:∃qb,qb=w.heap.size:=⟨_,rfl⟩;rw[←qY]at AJ Xj ⊢;clear qY;have uY:=ae<|Uh m A t.length cp W1;go_upto_if 7 with(first|(refine iy (bd m (.slice A t.length cp)) AJ Tryz.underlying37 ?_)|(go_at_call 43;refine uY.mono ?_;rintro e W2 ⟨rfl,bq⟩));have H2:=ae<|H1.keep bq;have HQ:=ae<|bq.ak AJ id;have HD:=ae<|Ki.keep bq;have bu:=ae<|bc.trans bq;clear bq uY H1 AJ Ki bc
 cases tY:mg m t.length with
 |false=>
  have HT:=aq (cN (bg c 2 hP hk).sp c (br c) M m t=M∧dK (bg c 2 hP hk).sp c (br c) M m t= []) (by unfold cN dK;rw[if_pos (.inr tY),if_pos (.inr tY)];exact⟨rfl,rfl⟩);clear tY;exact ad9
 |true=>
  have hq:¬(M.down=true∨mg m t.length=false):=fun e=>e.elim (fun e=>by rw[HH.dn]at e;cases e) fun e=>by rw[tY]at e;cases e
  have HT0:=aq (cN (bg c 2 hP hk).sp c (br c) M m t=_∧dK (bg c 2 hP hk).sp c (br c) M m t=_) (by unfold cN dK;rw[if_neg hq,if_neg hq];exact⟨rfl,rfl⟩);have HWG:=ae<|afN tY;clear hq tY;have q0:aF W2 qb 0 (m.f 0):=HQ.ag rfl
  by_cases h8:m.f 0=8
  ·have HT:=aq (cN (bg c 2 hP hk).sp c (br c) M m t=dr (bg c 2 hP hk).sp c M (m.f 5) (m.f 6)∧dK (bg c 2 hP hk).sp c (br c) M m t=gQ (bg c 2 hP hk).sp c M (m.f 5) (m.f 6)) (by rw[HT0.1,HT0.2,if_pos h8,if_pos h8];exact⟨rfl,rfl⟩);have Fg:=ae<|afL (m:=m) (A:=A) (n:=t.length) (cp:=cp) H2 HWG.2.2.2.2.2.2 Gv AH;have ac5:(m.f 0==8)=true:=by rw[h8];rfl
   clear h8;go_wp2_with (first|(refine iy (bd m (.slice A t.length cp)) HQ Tryz.underlying37 ?_)|(go_at_call 44;refine Fg.mono ?_;rintro e W3 h3;have ej:=ae h3.q;obtain⟨u,Dr3,rfl,Dd,h3,bV⟩:=h3));go_ret;rw[HT.1,HT.2];exact ej.back bu
  ·skip
   have ac5:(m.f 0==8)=false:=by simpa using h8
   by_cases h9:m.f 0=9
   ·have HT:=aq (cN (bg c 2 hP hk).sp c (br c) M m t=dS (bg c 2 hP hk).sp c (br c) M m t∧dK (bg c 2 hP hk).sp c (br c) M m t=fO (bg c 2 hP hk).sp c (br c) M m t) (by rw[HT0.1,HT0.2,if_neg h8,if_pos h9,if_neg h8,if_pos h9];exact⟨rfl,rfl⟩);have Fg:=ae<|afw (m:=m) (t:=t) (A:=A) (cp:=cp) H2 HD HWG Gv;have ac6:(m.f 0==9)=true:=by rw[h9];rfl
    clear h8 h9;go_wp2_with (first|(refine iy (bd m (.slice A t.length cp)) HQ Tryz.underlying37 ?_)|(go_at_call 45;refine Fg.mono ?_;rintro e W3 h3;have ej:=ae h3;obtain⟨u,Dr3,dv3,adq,rfl,Dd,h3,bV⟩:=h3));go_ret;rw[HT.1,HT.2];exact ej.back bu
   ·skip
    have ac6:(m.f 0==9)=false:=by simpa using h9
    by_cases WN:m.f 0=10
    ·skip
     have b10:(m.f 0==10)=true:=by rw[WN];rfl
     have y4:aF W2 a.x 4 (c.f 4):=H2.cf aE;have q6:aF W2 qb 6 (m.f 6):=HQ.ag rfl
     by_cases hm:c.f 4=2∧m.f 6=3
     ·have HT:=aq (cN (bg c 2 hP hk).sp c (br c) M m t=dz (bg c 2 hP hk).sp c M (m.f 5) t (m.f 6)∧dK (bg c 2 hP hk).sp c (br c) M m t= []) (by rw[HT0.1,HT0.2,if_neg h8,if_neg h9,if_pos WN,if_pos hm,if_neg h8,if_neg h9];exact⟨rfl,rfl⟩);have c4:(c.f 4==2)=true:=by rw[hm.1];rfl
      have c6:(m.f 6==3)=true:=by rw[hm.2];rfl
      clear h8 h9 WN hm;go_upto_region 10 with fail;have k18:aM W2.drew a.x 18 (aO a.r.cb):=H2.ak.ag rfl;have k5:aF W2.drew qb 5 (m.f 5):=HQ.ag rfl;have k6:aF W2.drew qb 6 (m.f 6):=HQ.ag rfl;have k10:aM W2.drew qb 10 (.slice A t.length cp):=HQ.ag rfl;have Ds:=ae<|afq (b:=m.f 5) (lev:=m.f 6) (H2.adl.keep ((af.ai au W2).drew)) (HD.keep ((af.ai au W2).drew)) gL;refine gg (fun w':World=>aM w' a.x 18 (aO a.r.cb)∧aF w' qb 5 (m.f 5)∧aF w' qb 6 (m.f 6)∧aM w' qb 10 (.slice A t.length cp)) 11 ?_ ?_
      ·first|exact⟨k18,k5,k6,k10⟩|exact aC
      intro aC;refine bE [0,1,2,3,4,5,6,7,9,10] ?_;refine cX 8 fun Kc hK=>?_
      go_simp;refine dy hK ?_ fun aC=>?_
      ·first|exact⟨k18,k5,k6,k10⟩|exact aC
      clear hK;refine dE ?_;clear aC k18 k5 k6 k10;go_wp2_with (go_at_call 46;refine Ds.mono ?_;rintro e W3 ⟨vb,A2,n2,m2,cd,Dr2,rfl,_,Gj,bV⟩);go_ret;have hd:=(H2.keep ((af.ai au W2).drew)).cache Gj bV DR.1 DR.2 aeQ;exact⟨_,Dr2,a.s.dv,S,rfl,by rw[HT.2];exact bO.nil _ _ _,by rw[HT.1];exact hd,((bu.drew).mono (S':=RaW o a) fun _ e=>e.elim).trans (bV.mono fun k e=>.inl (.inl e))⟩
     ·have HT:=aq (cN (bg c 2 hP hk).sp c (br c) M m t=M∧dK (bg c 2 hP hk).sp c (br c) M m t= []) (by rw[HT0.1,HT0.2,if_neg h8,if_neg h9,if_pos WN,if_neg hm,if_neg h8,if_neg h9];exact⟨rfl,rfl⟩)
      by_cases c4:c.f 4=2
      ·have d4:(c.f 4==2)=true:=by rw[c4];rfl
       have d6:(m.f 6==3)=false:=by have h:¬m.f 6=3:=fun e=>hm ⟨c4,e⟩;simpa using h
       exact aev
      ·have d4:(c.f 4==2)=false:=by simpa using c4
       exact aev
    ·skip
     have b10:(m.f 0==10)=false:=by simpa using WN
     by_cases h11:m.f 0=11
     ·have HT:=aq (cN (bg c 2 hP hk).sp c (br c) M m t=dC (bg c 2 hP hk).sp M (m.f 5)∧dK (bg c 2 hP hk).sp c (br c) M m t= []) (by rw[HT0.1,HT0.2,if_neg h8,if_neg h9,if_neg WN,if_pos h11,if_neg h8,if_neg h9];exact⟨rfl,rfl⟩);have b11:(m.f 0==11)=true:=by rw[h11];rfl
      clear h8 h9 WN h11;go_upto_region 12 with fail;have k18:aM W2.drew a.x 18 (aO a.r.cb):=H2.ak.ag rfl;have k5:aF W2.drew qb 5 (m.f 5):=HQ.ag rfl;have k6:aF W2.drew qb 6 (m.f 6):=HQ.ag rfl;have k10:aM W2.drew qb 10 (.slice A t.length cp):=HQ.ag rfl;have HDR:=ae<|ae8 (H2.adl.keep ((af.ai au W2).drew)) (m.f 5);refine gg (fun w':World=>aM w' a.x 18 (aO a.r.cb)∧aF w' qb 5 (m.f 5)) 6 ?_ ?_
      ·first|exact⟨k18,k5⟩
      intro aC;refine bE [0,1,2,3,4,5] ?_;refine dE ?_;clear aC k18 k5 k6 k10;go_wp2_with (go_at_call 47;refine HDR.mono ?_;rintro e W3 ⟨b',A3,n3,m3,rfl,Gj,bV⟩);go_ret;have hd:=(H2.keep ((af.ai au W2).drew)).cache Gj bV zT.1 zT.2 aeJ;exact⟨_,Dr,a.s.dv,S,rfl,by rw[HT.2];exact bO.nil _ _ _,by rw[HT.1];exact hd,((bu.drew).mono (S':=RaW o a) fun _ e=>e.elim).trans (bV.mono fun k e=>.inl (.inl e))⟩
     ·have HT:=aq (cN (bg c 2 hP hk).sp c (br c) M m t=M∧dK (bg c 2 hP hk).sp c (br c) M m t= []) (by rw[HT0.1,HT0.2,if_neg h8,if_neg h9,if_neg WN,if_neg h11,if_neg h8,if_neg h9];exact⟨rfl,rfl⟩);have b11:(m.f 0==11)=false:=by simpa using h11
      clear h8 h9 WN h11;exact ad9
end
theorem afO (sh:Nat→Int)(size:Nat):UF sh size []=false:=by
 unfold UF Au;rw[show(lB [] 6).2=false from rfl];rfl
theorem af9 {c:aQ}(hP:dp c):aeG c (mn (br c) (c.f 3).toNat ⟨fun _=>[],-1,false⟩) (rs0 c):=by
 unfold mn;rw[if_neg (by rw[afO];decide)];refine⟨fun b hb=>?_,fun i hi=>rfl⟩
 show bD (c.f 3).toNat []=(0,List.replicate (c.f 3).toNat 0)
 rfl
theorem afz (c:aQ)(A:Option Addr)(n m sb cb:Nat):Tryz.prog.built 58 [(0,.agg (ao c (.slice A n m))),(1,aO sb),(2,aO cb)]=some (raC c (.slice A n m) sb cb 0):=by kernel_rfl
def ag4 {K:bj}(c:aQ)(B:Nat)(M:AM K.σ)(w:World)(e:Ending)(w':World):Prop:=
 ∃(o:ir K c 2) (a:RaA),e= .returned (aO a.x)∧adY ⟨B,td o a.r⟩ o a M (rs0 c) (fun _=>[]) w'∧(∀k,RaW o a k∨k=a.s.sb→w.heap.size≤k)∧af au w w'
section
theorem agb {c:aQ}(hP:dp c)(hk:2<3)(hg:aej (bg c 2 hP hk) (bg c 2 hP hk).s0){B:Nat}{A:Option Addr}{n cp:Nat}(w:World)(bL:aX w A n cp c.h)(hB:B≤w.heap.size):
 Calls Tryz.prog 22 #[.agg (ao c (.slice A n cp))] w (ag4 (K:=(bg c 2 hP hk)) c B ⟨(bg c 2 hP hk).s0,fun _=>none,mn (br c) (c.f 3).toNat ⟨fun _=>[],-1,false⟩,false,0⟩ w):=by
 have HP:=ae hP;have HG:=ae hg;have qx:=ae hB;have HB:=ae<|Box.fresh w 25 (ao c (.slice A n cp));have HO:=ae<|(af.ai au w).alloc (.cells (ao c (.slice A n cp)) 25);have rC:=ae<|bL.keep HO;have hl:c.h.length≤100:=by have:=hP.hs.2.2;omega
 have HL:=ae hl;clear bL hl hg hB
 go_enter Tryz.func22,Tryz.ntmps22
 go_upto_region 1 with fail;change Code.wp _ _ _ _ (w.alloc (.cells (ao c (.slice A n cp)) 25));generalize w.alloc (.cells (ao c (.slice A n cp)) 25)=W0 at *;obtain⟨pb,E5⟩:∃pb,pb=w.heap.size:=⟨_,rfl⟩;rw[←E5]at HB ⊢;clear E5;have lI:=ae<|LN W0 rC HL;go_upto_region 2 with(first|(refine iy (ao c (.slice A n cp)) HB Tryz.underlying25 ?_)|(go_at_call 40;refine lI.mono ?_;rintro e W1 ⟨A1,m1,rfl,h1,h2,h3⟩;have Xu:=ae h1;have bc:=ae<|HO.trans h3;clear h1 h2 h3)|(refine iP (ao c (.slice A1 c.h.length m1)) (Box.fresh W1 25 (ao Nr aT)) (mI _ _ _ _) ?_));have bq:af au W1 ((W1.alloc (.cells (ao Nr aT) 25)).setRow W1.heap.size (ao c (.slice A1 c.h.length m1))):=((af.ai au W1).alloc _).aw (.inr (dX _)) _;have qQ:=ae<|(Box.fresh W1 25 (ao Nr aT)).aw (ao c (.slice A1 c.h.length m1));have HH2:=ae<|Xu.keep bq;have bu:=ae<|bc.trans bq;change Code.wp _ _ _ _ ((W1.alloc (.cells (ao Nr aT) 25)).setRow W1.heap.size (ao c (.slice A1 c.h.length m1)));clear bq Xu bc lI HB HO rC;generalize(W1.alloc (.cells (ao Nr aT) 25)).setRow W1.heap.size (ao c (.slice A1 c.h.length m1))=W2 at *;generalize W1.heap.size=ob at *;go_upto_region 2 with fail;have k2:aF W2.drew ob 2 (c.f 2):=qQ.ag (aL c _ aE);have k3:aF W2.drew ob 3 (c.f 3):=qQ.ag (aL c _ aE);have k0:aF W2.drew ob 0 (c.f 0):=qQ.ag (aL c _ aE);have k1:aF W2.drew ob 1 (c.f 1):=qQ.ag (aL c _ aE);refine gg (fun w':World=>Box w' ob 25 (ao c (.slice A1 c.h.length m1))∧aF w' ob 2 (c.f 2)∧aF w' ob 3 (c.f 3)∧aF w' ob 0 (c.f 0)∧aF w' ob 1 (c.f 1)) 12 ?_ ?_
 ·first|exact⟨qQ,k2,k3,k0,k1⟩|exact uF|exact hS4
 intro aC;refine aB (i:=0) (v:=.agg (ao c (.slice A1 c.h.length m1))) aS rfl aS (fun _ _ _ h=>h) (yieldsIf_load_mid (by rfl) 25 _ rfl ob 0 (by rfl) (ao c (.slice A1 c.h.length m1)).toList _ (fun w' hw j v hj=>by rw[Nat.zero_add];exact Box.ag hw.1 (by rw[←Array.getElem?_toList];exact hj)) Tryz.underlying25 rfl aS) (by assumption) ?_;refine dU ?_;refine bE [1,2,3,4,5,6,7,8] ?_;refine aB (i:=10) (v:=.agg (ao c (.slice A1 c.h.length m1))) aS rfl aS (fun _ _ _ h=>h) (yieldsIf_load_mid (by rfl) 25 _ rfl ob 0 (by rfl) (ao c (.slice A1 c.h.length m1)).toList _ (fun w' hw j v hj=>by rw[Nat.zero_add];exact Box.ag hw.1 (by rw[←Array.getElem?_toList];exact hj)) Tryz.underlying25 rfl aS) (by assumption) ?_;refine dU ?_;refine cX 9 fun Kc hK=>?_
 go_simp;refine(af8 HP W2.drew).mono ?_;rintro e W3 ⟨s,rfl,Gd,agf,agh,bV⟩;have uF:((fun w':World=>Box w' ob 25 (ao c (.slice A1 c.h.length m1))∧aF w' ob 2 (c.f 2)∧aF w' ob 3 (c.f 3)∧aF w' ob 0 (c.f 0)∧aF w' ob 1 (c.f 1)):World→Prop) W3:=⟨bV.ak aC.1 id,bV.cell aC.2.1 id,bV.cell aC.2.2.1 id,bV.cell aC.2.2.2.1 id,bV.cell aC.2.2.2.2 id⟩;have Dq:=ae Gd;have af1:=ae agf;have ahr:=ae agh;have bI:=ae<|bu.drew.trans bV;have HN:=ae<|aae HP hk W3 ((HH2.keep ((af.ai au W2).drew)).keep bV);clear Gd agf agh bV;refine dy hK ?_ fun aC=>?_
 ·first|exact⟨qQ,k2,k3,k0,k1⟩|exact uF|exact hS4
 clear hK;refine cX 11 fun Kc hK=>?_
 go_simp;refine HN.mono ?_;rintro e W4 ⟨o,i,rfl,QM,agj,ey⟩;have hS4:((fun w':World=>Box w' ob 25 (ao c (.slice A1 c.h.length m1))∧aF w' ob 2 (c.f 2)∧aF w' ob 3 (c.f 3)∧aF w' ob 0 (c.f 0)∧aF w' ob 1 (c.f 1)):World→Prop) W4:=⟨ey.ak aC.1 id,ey.cell aC.2.1 id,ey.cell aC.2.2.1 id,ey.cell aC.2.2.2.1 id,ey.cell aC.2.2.2.2 id⟩;have jh:=ae QM;have afE:=ae agj;have HS4:=ae<|Dq.keep ey;have cr:=ae<|bI.trans ey;have Sp:=aq ((∀k,RsW s k→k<W3.heap.size)∧s.sb<W3.heap.size∧∀b,b<nB c→∀k,aJ (s.dv b) k→k<W3.heap.size) (⟨fun k hk=>Dq.RW hk,Dq.ak.lt,fun b hb k hk=>by obtain⟨cs,h9⟩:=(Dq.kz b hb).1.ak hk;exact h9.lt⟩);clear QM agj ey HN;refine dy hK ?_ fun aC=>?_
 ·first|exact⟨qQ,k2,k3,k0,k1⟩|exact uF|exact hS4
 clear hK;refine dE ?_;clear aC uF hS4 k0 k1 k2 k3;refine du rfl _ _ rfl [(0,.agg (ao c (.slice A1 c.h.length m1))),(1,aO s.sb),(2,aO i.cb)] _ ?_ (afz c A1 c.h.length m1 s.sb i.cb) ?_
 ·simp[Act.eval]
 go_wp2_with fail;go_ret;have fW:=(af.ai au W4).alloc (.cells (raC c (.slice A1 c.h.length m1) s.sb i.cb 0) 58);have QM:=jh.out;have hlw:∀k,td o i k→k<W4.heap.size:=fun k hk=>Nat.lt_of_lt_of_le (QM.RW hk) QM.bs
 have hsz:=cr.size;have Gd:=bI.size;have Y8:∀b:Int,(none:Option (List Int)).isSome=true↔b∈(bg c 2 hP hk).sp.all (bg c 2 hP hk).s0:=fun b=>by
  rw[(bg c 2 hP hk).nil];simp
 have Jv:∀b,b∈(bg c 2 hP hk).sp.all (bg c 2 hP hk).s0→0≤b∧b<c.f 2:=fun b hb=>by
  rw[(bg c 2 hP hk).nil]at hb;exact absurd hb (List.not_mem_nil)
 have UQ:∀k,td o i k→B≤k:=fun k hk=>by
  have h1:=afE.out k hk;have h2:=qx.out;have h3:=bu.size;have h5:W2.drew.heap.size=W2.heap.size:=rfl;omega
 refine⟨o,⟨W4.heap.size,s,i,(.slice A1 c.h.length m1)⟩,rfl,?_,fun k hk=>?_,cr.trans fW⟩
 ·exact {
   ak:=Box.fresh W4 58 _
   adl:=⟨QM.keep fW,HG,(fun b l e=>by cases e),Y8,Jv,(fun k=>Iff.rfl),UQ,HP⟩
   rs:=HS4.keep fW
   of:=af9 HP
   fr:=⟨(RI rfl rfl).2,(RI rfl rfl).1⟩
   dn:=rfl
   sep:=fun k hk=>by
    have h1:=afE.out k hk;have h2:=Sp.out;exact⟨fun e=>by have:=h2.1 k e;omega,fun e=>by have:=hlw k hk;have e:k=W4.heap.size:=e;omega,fun e=>by have e:k=s.sb:=e;have:=h2.2.1;omega,fun b hb e=>by have:=h2.2.2 b hb k e;omega⟩
   ltB:=fun k hk=>by
    have h1:=Sp.1 k hk;have h2:=afE.out i.cb (.inr (.inl rfl));have h3:=QM.RW (.inr (.inl rfl:i.cb=i.cb∨i.cb=i.db));omega
   lo:=fun k hk=>by
    have h2:=qx.out
    show B≤k
    rcases hk with hk|hk
    ·have:=af1.out k (.inl hk);have h5:W2.drew.heap.size=W2.heap.size:=rfl;have:=bu.size;omega
    ·have e:k=W4.heap.size:=hk;omega}
 ·have h5:W2.drew.heap.size=W2.heap.size:=rfl;have h6:=bu.size;rcases hk with(hk|hk|hk)|hk
  ·have:=afE.out k hk;omega
  ·have:=af1.out k (.inl hk);omega
  ·have e:k=W4.heap.size:=hk;omega
  ·have e:k=s.sb:=hk;have:=af1.out k (.inr e);omega
end
end Go.Proofs.YtpcfhbeakecihaaGreat

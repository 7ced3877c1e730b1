/- texts Abn Abw -/
import Derived.Test.YtpcfhbeakecihaaGreatDwArk
import Derived.Test.YtpcfhbeakecihaaGreatM3
import Derived.Test.YtpcfhbeakecihaaGreatM2
import Derived.Test.YtpcfhbeakecihaaGreatM1
import Derived.Test.YtpcfhbeakecihaaGreatM4
import Derived.Test.YtpcfhbeakecihaaGreatM5
import Derived.Test.YtpcfhbeakecihaaGreatM36
set_option linter.all false
set_option maxHeartbeats 20000000
set_option maxRecDepth 100000
namespace Go.Proofs.YtpcfhbeakecihaaGreat
open Go.RowKit Go.ChangeShapes Go.WideShapes
section
variable {σ:Type}{sp:oz σ}{c:aN}{M:AMZq σ}{b wB:Int}{t:List Int}
def ABnd (c:aN)(M:AMZq σ):Prop:=∀b l,M.D b=some l→0≤b∧b<c.f 2∧(l.length:Int)=c.f 3
theorem ABnd.put (h:ABnd c M):ABnd c (aPutM sp c M b t wB):=fun y l hy=>by
 rcases aPut_D hy with⟨e1,e2,e3⟩|⟨e1,_⟩
 ·obtain⟨_,h2,h3,h4⟩:=nD e3;rw[e1,e2];exact⟨h3,h4,h2⟩
 ·exact h y l e1
theorem ABnd.drop (h:ABnd c M):ABnd c (aDropM sp M b):=fun y l hy=>h y l (aDrop_D hy).1
theorem ABnd.kpZq (h:ABnd c M):ABnd c (aKeepM sp c M b t wB):=by
 unfold aKeepM
 split
 ·exact h.put
 ·exact h.drop
theorem aHear_bnd (h:ABnd c M)(sh:Nat→Int)(m:ec):ABnd c (aHearM sp c sh M m t):=by
 unfold aHearM
 split
 ·exact h
 ·split
  ·unfold aReadM
   split
   ·split
    ·exact ABnd.kpZq (M:=aHit sp M _) h
    ·exact h
   ·split
    ·exact ABnd.kpZq (M:=aMiss M) h
    ·exact h
  ·split
   ·unfold aWriteM
    split
    ·exact h
    ·split
     ·exact h
     ·split
      ·exact ABnd.kpZq (M:={M with d:=_}) h
      ·exact h
   ·split
    ·split
     ·exact h.put
     ·exact h
    ·split
     ·exact h.drop
     ·exact h
def VicN (sp:oz σ)(c:aN)(M:AMZq σ):Prop:=∀b wB,dt c 2 b wB=true→(sp.add M.s b).2.2=true→(sp.add M.s b).2.1≠b
def BndOk (c:aN)(M:AMZq σ)(wB:Int)(p:PM):Prop:=(p.m.f 0=12→p.m.f 8=0→c.f 5=0→((M.D (p.m.f 5)).isSome=true↔(c.f 4≠2∨wB=3)))∧(p.m.f 0=14→(M.D (p.m.f 5)).isSome=false∧c.f 4=1)
theorem aPutT_bnd (hv:VicN sp c M){p:PM}{lvZq:Int}(h:p∈aPutT sp c M b t wB):BndOk c (aPutM sp c M b t wB) lvZq p:=by
 obtain⟨h1,h2,h3,h4,h5⟩:=aPutT_kind h;refine⟨fun e=>by omega,fun _=>⟨?_,h4⟩⟩;have hn:=hv b wB (nD h5).1 h3;rw[h2]
 show((aPutM sp c M b t wB).D (sp.add M.s b).2.1).isSome=false
 unfold aPutM;rw[if_neg (fun e=>e h5)]
 show(aD (if(sp.add M.s b).2.2=true then aD M.D (sp.add M.s b).2.1 none else M.D) b (some t) (sp.add M.s b).2.1).isSome=false
 rw[if_pos h3];unfold aD;rw[if_neg hn,if_pos rfl];rfl
theorem aKeepT_bnd (hv:VicN sp c M){p:PM}{lvZq:Int}(h:p∈aKeepT sp c M b t wB):BndOk c (aKeepM sp c M b t wB) lvZq p:=by
 unfold aKeepT at h;unfold aKeepM
 split at h
 ·rename_i hk
  rw[if_pos hk];exact aPutT_bnd hv h
 ·cases h
theorem takesB_all0 (h5:c.f 5=0)(h0:0≤b)(h1:b<c.f 2):dt c 2 b wB=true:=by
 unfold dt;rw[if_neg (by rw[h5];decide),h5];simp[h0,h1]
theorem aKeep_is (h5:c.f 5=0)(h0:0≤b)(h1:b<c.f 2)(ht:(t.length:Int)=c.f 3):((aKeepM sp c M b t wB).D b).isSome=true↔(c.f 4≠2∨wB=3):=by
 have hT:dt c 2 b wB=true:=takesB_all0 h5 h0 h1;unfold aKeepM
 by_cases hk:c.f 4≠2∨(wB=3∧dt c 2 b wB=true)
 ·rw[if_pos hk];refine⟨fun _=>hk.imp id fun h=>h.1,fun _=>?_⟩;unfold aPutM;rw[if_neg (fun e=>e (putCode_ok h0 h1 ht hT))]
  show(aD _ b (some t) b).isSome=true
  unfold aD;rw[if_pos rfl];rfl
 ·rw[if_neg hk];refine⟨fun h=>?_,fun h=>absurd (h.imp id fun h=>⟨h,hT⟩) hk⟩;unfold aDropM at h
  split at h
  ·have h:(aD M.D b none b).isSome=true:=h;unfold aD at h;rw[if_pos rfl]at h
   cases h
  ·rename_i hn
   exact absurd h hn
theorem aHear_bound (hP:dJ c)(h:ABnd c M)(hv:VicN sp c M)(sh:Nat→Int)(m:ec):∀p∈aHearT sp c sh M m t,BndOk c (aHearM sp c sh M m t) (m.f 6) p:=by
 intro p hp;unfold aHearT at hp;unfold aHearM
 by_cases hq:M.down=true∨nW m t.length=false
 ·rw[if_pos hq]at hp;cases hp
 ·rw[if_neg hq]at hp ⊢
  by_cases e8:m.f 0=8
  ·rw[if_pos e8]at hp ⊢;unfold aReadT at hp;unfold aReadM
   cases hDZq:M.D (m.f 5)with
   |some t'=>
    rw[hDZq]at hp;dsimp only at hp ⊢;obtain⟨b0,b1,bl⟩:=h _ _ hDZq;rcases List.mem_append.1 hp with h1|h1
    ·split at h1
     ·rename_i h4
      unfold aKeepT at h1
      split at h1
      ·have:=(aPutT_kind h1).2.2.2.1;omega
      ·cases h1
     ·cases h1
    ·rw[List.mem_singleton.1 h1];refine⟨fun _ _ h5=>?_,fun e=>absurd e (by show¬(12:Int)=14;decide)⟩
     show((if c.f 4=2 then aKeepM sp c (aHit sp M (m.f 5)) (m.f 5) t' (m.f 6)else aHit sp M (m.f 5)).D (m.f 5)).isSome=true↔_
     split
     ·exact aKeep_is h5 b0 b1 bl
     ·rename_i h4
      refine⟨fun _=>.inl h4,fun _=>?_⟩
      show(M.D (m.f 5)).isSome=true
      rw[hDZq];rfl
   |none=>
    rw[hDZq]at hp;dsimp only at hp ⊢
    split at hp
    ·rename_i hb
     rw[if_pos hb];rcases List.mem_append.1 hp with h1|h1
     ·exact aKeepT_bnd (M:=aMiss M) hv h1
     ·rw[List.mem_singleton.1 h1];refine⟨fun _ _ h5=>?_,fun e=>absurd e (by show¬(12:Int)=14;decide)⟩;exact aKeep_is h5 hb.1 hb.2 (by rw[aSto,mF];have:=hP.p3;omega)
    ·rename_i hb
     rw[if_neg hb];rw[List.mem_singleton.1 hp];exact⟨fun _ e=>absurd e (by show¬(9:Int)=0;decide),fun e=>absurd e (by show¬(12:Int)=14;decide)⟩
  ·rw[if_neg e8]at hp ⊢
   by_cases e9:m.f 0=9
   ·rw[if_pos e9]at hp ⊢;have Eg:∀code g M',BndOk c (σ:=σ) M' (m.f 6) (aDone m code g):=fun code g M'=>⟨fun e=>absurd e (by show¬(13:Int)=12;decide),fun e=>absurd e (by show¬(13:Int)=14;decide)⟩
    unfold aWriteT at hp
    split at hp
    ·cases hp
    ·rename_i H9
     split at hp
     ·rw[List.mem_singleton.1 hp];exact Eg _ _ _
     ·rename_i h0
      split at hp
      ·rename_i yZ
       rcases List.mem_append.1 hp with h1|h1
       ·unfold aWriteM;rw[if_neg (fun e=>H9 (.inl e)),if_neg h0,if_pos yZ];exact aKeepT_bnd (M:={M with d:=(aWZq c sh M m t).1}) hv h1
       ·rw[List.mem_singleton.1 h1];exact Eg _ _ _
      ·rw[List.mem_singleton.1 hp];exact Eg _ _ _
   ·rw[if_neg e9]at hp
    cases hp
end
section
variable {K:aZ}{c:aN}{hP:dJ c}{hk:2<3}{Z:ZN}{a:ArrA (jW c 2 hP hk)}{M:AMZq (jW c 2 hP hk).σ}{w:World}
theorem ArrB.vic (h:ArrB Z (jW c 2 hP hk) c a M w):VicN (jW c 2 hP hk).sp c M:=fun b wB ht hg=>by
 have Qx:=hP.p2;have hT:=sA ht;unfold jF at hT;simp only[Bool.and_eq_true,decide_eq_true_eq]at hT;rcases((jW c 2 hP hk).oc a.i).xx h.cch.ord hT.1 (by omega) (sB ht)with⟨h1,_⟩|⟨_,h2,h3,_⟩
 ·rw[h1]at hg;cases hg
 ·intro e;rw[e]at h2;exact h3 h2
theorem ArrB.is (h:ArrB Z (jW c 2 hP hk) c a M w)(b:Int):decide (b∈(jW c 2 hP hk).sp.all M.s)=(M.D b).isSome:=by
 have h1:=h.cch.keys b;have h2:(M.D b).isSome=(a.D b).isSome:=by rw[h.dd b];cases a.D b<;>rfl
 rw[h2]
 cases h3:(a.D b).isSome with
 |true=>exact decide_eq_true (h1.1 h3)
 |false=>exact decide_eq_false fun e=>by rw[h1.2 e]at h3;cases h3
theorem ArrB.cap (h:ArrB Z (jW c 2 hP hk) c a M w):(((jW c 2 hP hk).sp.all M.s).length:Int)≤c.f 11:=Gr h.cch.ord
end
end Go.Proofs.YtpcfhbeakecihaaGreat

namespace Go.Proofs.YtpcfhbeakecihaaGreat
open Go.RowKit Go.ChangeShapes Go.WideShapes
def AbRel (c:aN)(hP:dJ c)(hk:2<3)(cfb:Nat)(cv:Value)(ab n:Nat)(w:World)(iv:Value)(wr:World):Prop:=
 ∃(k:Nat) (a:ArrA (jW c 2 hP hk)) (M:AMZq (jW c 2 hP hk).σ),k≤n∧iv=ah k∧a.ab=ab∧AtI cfb cv k w a M wr∧ABnd c M
section
theorem abound_walk (c:aN)(L:List lG)(A B:Option Addr)(m n:Nat)(w:World)(bI:aL w A c.h.length m c.h)(hL:dN w.heap.size w B L.length n L)(hLB:∀i,i<L.length→sm (L.getD i default).d):
 Calls Tryz.prog 4 #[.agg (aj c (.slice A c.h.length m)),.slice B L.length n] w fun e w'=>e= .returned (.bool true)∧af aA w w':=by
 have tY:=ae bI;have HL:=ae hL;have um:=ae hLB;have HMX:=ae (Nat.le_trans hL.cap hL.max);have HMH:=ae (Nat.le_trans bI.cap bI.max);have HB:=ae (Box.fresh w 25 (aj c (.slice A c.h.length m)));have HO:=ae ((af.ak aA w).alloc (.cells (aj c (.slice A c.h.length m)) 25));clear bI hL hLB
 go_enter Tryz.func4,Tryz.ntmps4
 go_upto_region 1 with fail;change Code.wp _ _ _ _ (w.alloc (.cells (aj c (.slice A c.h.length m)) 25));generalize w.alloc (.cells (aj c (.slice A c.h.length m)) 25)=W1 at *;obtain⟨cfb,hcf⟩:∃cfb,cfb=w.heap.size:=⟨_,rfl⟩;rw[←hcf]at HB ⊢;have HCF:=ae hcf;clear hcf;go_upto_region 3 with(go_at_call 7;refine(zK W1).mono ?_;rintro e W2 ⟨rfl,bd⟩);have eC:=ae (bd.az HB id);have bR:=ae (HO.trans bd);clear bd HB HO;have HLG:=ae (BF (cf:=c) (A:=A) (m:=m) (HL.keep bR) HMH);go_upto_if 16 with(first|(refine pL (aj c (.slice A c.h.length m)) eC Tryz.underlying25 ?_)|(go_at_call 8;refine HLG.mono ?_;rintro e W3 ⟨rfl,bQ⟩));have kj:=ae (bQ.az eC id);have b7:=ae (bR.trans bQ);clear bQ eC bR HLG
 cases Fj:rE c.h.length L with
 |true=>
  clear Fj;go_wp2;go_ret;exact⟨rfl,b7⟩
 |false=>
  obtain⟨_,NW,wG⟩:=EI Fj;have zm:=ae NW;have HL3:=ae wG;clear Fj NW wG;go_upto_region 5 with fail
  by_cases hP:dJ c
  ·skip
   refine kb (fun w':World=>Box w' cfb 25 (aj c (.slice A c.h.length m))) 7 ?_ ?_
   ·first|exact kj.drew|exact uo|exact HQ5.cf
   intro aX;refine bj (i:=0) (v:=.agg (aj c (.slice A c.h.length m))) (by kernel_rfl) rfl (by kernel_rfl) (fun _ _ _ h=>h) (yieldsIf_load_mid (by rfl) 25 _ rfl cfb 0 (by rfl) (aj c (.slice A c.h.length m)).toList _ (fun w' hw j v hj=>by rw[Nat.zero_add];exact Box.ag hw (by rw[←Array.getElem?_toList];exact hj)) Tryz.underlying25 rfl (by kernel_rfl)) (by assumption) ?_;refine sd ?_;refine lh 1 fun KcZq hK=>?_
   go_simp;refine(xN W3.drew).mono ?_;rintro e W4 ⟨db,lb,rfl,hd4,hlb4,hdb4,gB⟩;have PF:=ae hd4;have HDL4:=aH (W3.heap.size≤lb∧W3.heap.size≤db) (⟨hlb4,hdb4⟩);have uo:=ae (gB.az kj.drew id);have jb:=ae (b7.drew.trans gB);have HSZ3:=aH (w.heap.size≤W3.heap.size) (b7.size);clear hd4 hlb4 hdb4 gB;refine lj hK ?_ fun aX=>?_
   ·first|exact kj.drew|exact uo|exact HQ5.cf
   clear hK;refine lh 2 fun KcZq hK=>?_
   go_simp;have HN:=ae (ara_new (Z:=⟨w.heap.size,fun _=>False⟩) (EL hP (by decide:2<3)) (Gq hP (by decide:2<3)) hP W4 (tY.keep jb) PF rfl rfl (fun i x hx=>by cases hx) (fun _ _ _ _=>id) (by have h1:=HDL4.out;have h2:=HSZ3.out;have h3:=jb.size;exact⟨by show w.heap.size≤db;omega,by show w.heap.size≤lb;omega,h3⟩) (fun k h=>h.elim));refine HN.mono ?_;rintro e W5 ⟨a0,he5,had,mK,h5,o5,yY⟩;obtain⟨ab,CZ⟩:∃ab,a0.ab=ab:=⟨_,rfl⟩;rw[CZ]at he5;subst he5;have HAB:=ae CZ;have HA0:=ae (EM (k:=2) (hP:=hP) (hk:=(by decide:2<3)));have HQ5:=aH (AtI (hP:=hP) (hk:=(by decide:2<3)) cfb (.slice A c.h.length m) 0 w a0 _ W5) (⟨h5,by show(jW c 2 hP (by decide)).sp.sk (jW c 2 hP (by decide)).s0≤_;rw[HA0.out];exact Nat.zero_le _,Nat.le_refl _,o5.az uo (fun e=>by have h1:=uo.out;rcases e with e|e;(rw[e]at h1;exact absurd (h1.same PF.az).1 (by decide));(rw[e]at h1;exact absurd (h1.same PF.row).1 (by decide))),jb.aE o5 fun k hk=>.inr (by have h1:=HDL4.out;have h2:=HSZ3.out;rcases hk with e|e<;>omega)⟩);have B3:=ae yY;clear had mK h5 o5 CZ yY HN;refine lj hK ?_ fun aX=>?_
   ·first|exact kj.drew|exact uo|exact HQ5.cf
   clear hK;refine eZ [3,4,5,6] ?_;refine jz ?_;have HT5:=aH (ABnd c (⟨(jW c 2 hP (by decide)).s0,fun _=>none,stOpen (sr c) (c.f 3).toNat ⟨fun _=>[],-1,false⟩,false,0⟩:AMZq (jW c 2 hP (by decide)).σ)) (fun b l h=>by cases h);go_wp2_with fail
   go_loopw [27] (fun iv wr=>AbRel c hP (by decide) cfb (.slice A c.h.length m) ab L.length w iv wr) (fun iv _=>L.length - (intOf iv).toNat)
   case atStart=>exact⟨0,a0,_,Nat.zero_le _,rfl,HAB,HQ5,HT5⟩
   case round=>
    clear HQ5 HT5 HAB jb PF HDL4 HSZ3 HA0;obtain⟨k,a,M,hk9,rfl,CZ,hI,hT⟩:=hrel;subst CZ;have PA:=ae hI;have HT:=ae hT;clear hI hT
    by_cases aO:k<L.length
    ·skip
     obtain⟨g,ogZq,dv,rfl,hg,rm,eE,bp⟩:=(HL.keep PA.o).at_ k aO;have mO:(k:Int)<L.length:=by omega
     have hk1000:(k:Int)<1000:=by have:=zm.out;omega
     have cT:=ae aO;have HK1:=ae (show k<100 by have:=zm.out;omega);have Mo:=ae (um k aO);have F6:=ae rm;have HDD:=aH (pZ ⟨w.heap.size,fun _=>False⟩ wr dv (L.getD k default).d) (⟨eE,fun h0 k hk=>.inl (bp k h0 hk)⟩);clear rm aO hk9 eE bp;generalize L.getD k default=x at *;obtain⟨dA,dc,rfl⟩:=HDD.shape;have HRC:=aH (∀j v,(DT x (.slice dA x.d.length dc)).toList[j]? =some v→ba wr g (ogZq+k*12+j) v) (fun j v hj=>F6 j v (by rw[←Array.getElem?_toList];exact hj));go_upto_region 11 with(first|(refine wpList_load_mid rfl 39 _ rfl g (ogZq+k*12) rfl (DT x (.slice dA x.d.length dc)).toList _ HRC Tryz.underlying39 rfl (by kernel_rfl) ?_)|(refine pT (DT x (.slice dA x.d.length dc)) (Box.fresh wr 39 zAcY) (actY_one _ _ _ _) ?_));have nQ:af aA wr ((wr.alloc (.cells zAcY 39)).setRow wr.heap.size (DT x (.slice dA x.d.length dc))):=((af.ak aA wr).alloc _).aK (.inr (Nat.le_refl _)) _;have MD:=ae ((Box.fresh wr 39 zAcY).aK (DT x (.slice dA x.d.length dc)));have HI:=ae (PA.keep nQ);have HDA:=ae (HDD.keep nQ);change Code.wp _ _ _ _ ((wr.alloc (.cells zAcY 39)).setRow wr.heap.size (DT x (.slice dA x.d.length dc)));clear nQ PA HDD F6 HRC;generalize(wr.alloc (.cells zAcY 39)).setRow wr.heap.size (DT x (.slice dA x.d.length dc))=W8 at *;generalize wr.heap.size=acb at *
     try simp only[Act.put]
     have HMC:=aH (∀j v,(bc x.m (.slice dA x.d.length dc)).toList[j]? =some v→ba W8 acb (1+j) v) (fun j v hj=>by
      have hj11:j<11:=(List.getElem?_eq_some_iff.1 hj).1;refine MD.ag ?_;rw[Array.getElem?_toList]at hj;rcases(show j=0∨j=1∨j=2∨j=3∨j=4∨j=5∨j=6∨j=7∨j=8∨j=9∨j=10 by omega)with rfl|rfl|rfl|rfl|rfl|rfl|rfl|rfl|rfl|rfl|rfl<;>exact hj)
     have HHR:=ae (ara_hear (m:=x.m) HI.b HDA Mo (by have h1:=HI.sk;have h2:=HK1.out;unfold jH;omega) (by have h1:=HI.rd;have h2:=HK1.out;omega));have hag:=aHear_age (K:=jW c 2 hP (by decide)) (c:=c) (M:=M) (t:=x.d) a.i (sr c) x.m;unfold TelP at HHR;have hbd:=aHear_bound (sp:=(jW c 2 hP (by decide)).sp) (t:=x.d) hP HT HI.b.vic (sr c) x.m;have Og:=aHear_bnd (sp:=(jW c 2 hP (by decide)).sp) (t:=x.d) HT (sr c) x.m;generalize aHearM (jW c 2 hP (by decide)).sp c (sr c) M x.m x.d=M2 at HHR hbd Og hag;generalize aHearT (jW c 2 hP (by decide)).sp c (sr c) M x.m x.d=TL at HHR hbd;have HT9:=ae Og;have FR:=ae hbd;have IL:=ae hag;clear hbd Og hag;go_upto_region 12 with(first|(refine wpList_load_mid rfl 37 _ rfl acb 1 rfl (bc x.m (.slice dA x.d.length dc)).toList _ HMC Tryz.underlying37 rfl (by kernel_rfl) ?_)|(go_at_call 14;refine HHR.mono ?_;rintro e Lc ⟨u,rfl,hm10,D10,V10,C5,o10⟩;obtain⟨AuZq,cuZq,euZq,hcu1,hcu2⟩:=hm10.shape;subst euZq;have HM10:=ae hm10;have HI9:=ae (HI.p6 C5 o10 IL.1 IL.2);have HCU:=aH (TL.length≤maxLen) (Nat.le_trans hcu1 hcu2);have HBX9:=ae (o10.az MD fun e=>absurd (HI.b.M8 e MD) (by decide));clear hm10 C5 o10 hcu1 hcu2));clear HHR HMC;have htlm:(TL.length:Int)≤9223372036854775807:=by have:=HCU.out;unfold maxLen at this;omega
     go_loopw [36] (fun iv wr=>AhRel TL.length Lc iv wr) (fun iv _=>TL.length - (intOf iv).toNat)
     case atStart=>exact⟨0,Nat.zero_le _,rfl,af.ak _ _⟩
     case round=>
      obtain⟨j,hj9,rfl,ho⟩:=hrel;have HOJ:=ae ho;clear ho
      by_cases Aj:j<TL.length
      ·have ze:(j:Int)<TL.length:=by omega
       have HJL:=ae Aj;obtain⟨gm,cm,AmZq,nm,egm,Fv,Al⟩:=(HM10.keep HOJ).at_ Aj;injection egm with egA _ egC;subst egA egC;have Im:=ae (FR (TL.getD j pm0) (by rw[List.getD_eq_getElem?_getD,List.getElem?_eq_getElem Aj];exact List.getElem_mem Aj));have HCM:=aH (∀i v,(bc (TL.getD j pm0).m (.slice AmZq (TL.getD j pm0).d.length nm)).toList[i]? =some v→ba wr gm (j*11+i) v) (fun i v hi=>Fv i v (by rw[←Array.getElem?_toList];exact hi));clear Aj hj9 Fv Al;generalize TL.getD j pm0=p at *;obtain⟨pm,pdZq⟩:=p;dsimp only at *;go_upto_region 14 with(first|(refine wpList_load_mid rfl 37 _ rfl gm (j*11) rfl (bc pm (.slice AmZq pdZq.length nm)).toList _ HCM Tryz.underlying37 rfl (by kernel_rfl) ?_)|(refine pT (bc pm (.slice AmZq pdZq.length nm)) (Box.fresh wr 37 zMsR) (by simp[bc,Value.oneCell']) ?_));have ho12:af aA wr ((wr.alloc (.cells zMsR 37)).setRow wr.heap.size (bc pm (.slice AmZq pdZq.length nm))):=((af.ak aA wr).alloc _).aK (.inr (Nat.le_refl _)) _;have HMX:=ae ((Box.fresh wr 37 zMsR).aK (bc pm (.slice AmZq pdZq.length nm)));have HOX:=ae (HOJ.trans ho12);clear ho12 HCM;change Code.wp _ _ _ _ ((wr.alloc (.cells zMsR 37)).setRow wr.heap.size (bc pm (.slice AmZq pdZq.length nm)));generalize(wr.alloc (.cells zMsR 37)).setRow wr.heap.size (bc pm (.slice AmZq pdZq.length nm))=La at *;generalize wr.heap.size=mbx at *
       try simp only[Act.put]
       have CN:=Im.1;have GQ:=Im.2;dsimp only at CN GQ;have hhis:=HI9.b.is (pm.f 5);generalize(M2.D (pm.f 5)).isSome=hb at CN GQ hhis;have HIS:=ae hhis;have Dh:=ae CN;have Pn:=ae GQ;clear CN GQ hhis Im;refine kb (fun w':World=>aF w' mbx 5 (pm.f 5)) 5 ?_ ?_
       ·first|assumption|exact HMX.drew.ag rfl
       intro aX;refine eZ [0,2,3] ?_;refine lh 1 fun KcZq hK=>?_
       go_simp;refine(ara_blocks (HI9.b.keep HOX.drew)).mono ?_;rintro e K9 ⟨vb,rfl,hr13,ho13⟩;obtain⟨AbZq,cb,eb,hcb1,xv⟩:=hr13.shape;subst eb;have HR13:=ae hr13;have xh:=ae (Nat.le_trans hcb1 xv);have HO13:=ae (HOX.drew.trans ho13);have HMX13:=ae (ho13.az HMX.drew id);have z5:aF K9 mbx 5 (pm.f 5):=HMX13.ag rfl;clear hr13 ho13 hcb1 xv;refine lj hK ?_ fun aX=>?_
       ·first|assumption|exact HMX.drew.ag rfl
       clear hK;refine lh 4 fun KcZq hK=>?_
       go_simp;have hx:=EN AbZq cb _ _ (pm.f 5) K9 HR13.at xh;rw[HIS.out]at hx;refine hx.mono ?_;rintro e QZ ⟨rfl,rfl⟩;refine lj hK ?_ fun aX=>?_
       ·first|assumption|exact HMX.drew.ag rfl
       clear hK;refine jz ?_;have z0:aF K9 mbx 0 (pm.f 0):=HMX13.ag rfl;have z8:aF K9 mbx 8 (pm.f 8):=HMX13.ag rfl;have y4:aF K9 cfb 4 (c.f 4):=(HO13.az HI9.cf id).ag (aB c _ (by decide));have y5:aF K9 cfb 5 (c.f 5):=(HO13.az HI9.cf id).ag (aB c _ (by decide));have y7:aF K9 acb 7 (x.m.f 6):=(HO13.az HBX9 id).ag rfl;have HRK:=aH (AhRel TL.length Lc (ah ((j:Int)+1)) K9) (⟨j+1,HJL,by simp,HO13⟩);clear aX
       by_cases OJ:pm.f 0=12
       ·have b12:(pm.f 0==12)=true:=by rw[OJ];rfl
        have b14:(pm.f 0==14)=false:=by rw[OJ];rfl
        by_cases c0:pm.f 8=0
        ·have b0:(pm.f 8==0)=true:=by rw[c0];rfl
         by_cases c5:c.f 5=0
         ·have b5Zq:(c.f 5==0)=true:=by rw[c5];rfl
          have hq:=Dh.out OJ c0 c5;clear OJ c0 c5
          by_cases c4:c.f 4=2
          ·rw[c4]at y4
           by_cases c3:x.m.f 6=3
           ·have b3:(x.m.f 6==3)=true:=by rw[c3];rfl
            have e:hb=true:=hq.2 (.inr c3);subst e;clear c3 c4 hq;go_wp2_with fail
            go_roundw
            case rel=>(repeat first|exact HRK|(refine⟨HRK,?_⟩;(repeat(first|exact rfl|refine⟨rfl,?_⟩)))|apply Exists.intro)
            case measure=>simp[intOf];have:=HJL.out;omega
           ·have b3:(x.m.f 6==3)=false:=by simpa using c3
            have e:hb=false:=by
             cases hb with
             |false=>rfl
             |true=>exact absurd (hq.1 rfl) (fun h=>h.elim (fun h=>h c4) c3)
            subst e;clear c3 c4 hq;go_wp2_with fail
            go_roundw
            case rel=>(repeat first|exact HRK|(refine⟨HRK,?_⟩;(repeat(first|exact rfl|refine⟨rfl,?_⟩)))|apply Exists.intro)
            case measure=>simp[intOf];have:=HJL.out;omega
          ·have e:hb=true:=hq.2 (.inl c4);subst e;clear hq;go_wp2_with fail
           go_roundw
           case rel=>(repeat first|exact HRK|(refine⟨HRK,?_⟩;(repeat(first|exact rfl|refine⟨rfl,?_⟩)))|apply Exists.intro)
           case measure=>simp[intOf];have:=HJL.out;omega
         ·have b5Zq:(c.f 5==0)=false:=by simpa using c5
          clear OJ c0 c5;go_wp2_with fail
          go_roundw
          case rel=>(repeat first|exact HRK|(refine⟨HRK,?_⟩;(repeat(first|exact rfl|refine⟨rfl,?_⟩)))|apply Exists.intro)
          case measure=>simp[intOf];have:=HJL.out;omega
        ·have b0:(pm.f 8==0)=false:=by simpa using c0
         clear OJ c0;go_wp2_with fail
         go_roundw
         case rel=>(repeat first|exact HRK|(refine⟨HRK,?_⟩;(repeat(first|exact rfl|refine⟨rfl,?_⟩)))|apply Exists.intro)
         case measure=>simp[intOf];have:=HJL.out;omega
       ·have b12:(pm.f 0==12)=false:=by simpa using OJ
        by_cases OH:pm.f 0=14
        ·have b14:(pm.f 0==14)=true:=by rw[OH];rfl
         obtain⟨e,c4⟩:=Pn.out OH;subst e;rw[c4]at y4;clear OJ OH c4;go_wp2_with fail
         go_roundw
         case rel=>(repeat first|exact HRK|(refine⟨HRK,?_⟩;(repeat(first|exact rfl|refine⟨rfl,?_⟩)))|apply Exists.intro)
         case measure=>simp[intOf];have:=HJL.out;omega
        ·have b14:(pm.f 0==14)=false:=by simpa using OH
         clear OJ OH;go_wp2_with fail
         go_roundw
         case rel=>(repeat first|exact HRK|(refine⟨HRK,?_⟩;(repeat(first|exact rfl|refine⟨rfl,?_⟩)))|apply Exists.intro)
         case measure=>simp[intOf];have:=HJL.out;omega
      ·obtain rfl:j=TL.length:=by omega
       have HI9:=ae (HI9.keep HOJ);clear Aj hj9;go_upto_region 20 with fail;have nZ:=HI9.b.cap;obtain⟨nnZq,Fc⟩:∃nnZq,((jW c 2 hP (by decide)).sp.all M2.s).length=nnZq:=⟨_,rfl⟩;rw[Fc]at nZ;have FX:=ae Fc;clear Fc;have HCAP:=ae nZ;clear nZ;refine kb (fun w':World=>aF w' cfb 11 (c.f 11)) 6 ?_ ?_
       ·first|assumption|exact HI9.cf.drew.ag (aB c _ (by decide))
       intro aX;refine eZ [0,3,4,5] ?_;refine lh 1 fun KcZq hK=>?_
       go_simp;refine(ara_blocks (HI9.b.keep ((af.ak aA wr).drew))).mono ?_;rintro e W15 ⟨vb,rfl,hr15,ho15⟩;obtain⟨AbZq,cb,eb,hcb1,xv⟩:=hr15.shape;subst eb;rw[FX.out];have HO15:=ae (((af.ak aA wr).drew).trans ho15);have Qa:=ho15.cell aX id;clear hr15 ho15 hcb1 xv;refine lj hK ?_ fun aX=>?_
       ·first|assumption|exact HI9.cf.drew.ag (aB c _ (by decide))
       clear hK;refine eZ [2] ?_;refine jz ?_;have nZ:¬c.f 11<(nnZq:Int):=by have:=HCAP.out;omega
       clear aX Qa;have Pk:=aH (AbRel c hP (by decide) cfb (.slice A c.h.length m) a.ab L.length w (ah ((k:Int)+1)) W15) (⟨k+1,{a with D:=D10,V:=V10},_,cT,by simp,rfl,HI9.keep HO15,HT9⟩);go_wp2_with fail
       go_roundw
       case rel=>(repeat first|exact Pk|(refine⟨Pk,?_⟩;(repeat(first|exact rfl|refine⟨rfl,?_⟩)))|apply Exists.intro)
       case measure=>simp[intOf];have:=cT.out;omega
    ·obtain rfl:k=L.length:=by omega
     go_wp2_with fail;go_ret;exact⟨rfl,PA.o⟩
  ·skip
   refine kb (fun w':World=>Box w' cfb 25 (aj c (.slice A c.h.length m))) 7 ?_ ?_
   ·first|exact kj.drew|exact uo|exact Ga
   intro aX;refine bj (i:=0) (v:=.agg (aj c (.slice A c.h.length m))) (by kernel_rfl) rfl (by kernel_rfl) (fun _ _ _ h=>h) (yieldsIf_load_mid (by rfl) 25 _ rfl cfb 0 (by rfl) (aj c (.slice A c.h.length m)).toList _ (fun w' hw j v hj=>by rw[Nat.zero_add];exact Box.ag hw (by rw[←Array.getElem?_toList];exact hj)) Tryz.underlying25 rfl (by kernel_rfl)) (by assumption) ?_;refine sd ?_;refine lh 1 fun KcZq hK=>?_
   go_simp;refine(xN W3.drew).mono ?_;rintro e W4 ⟨db,lb,rfl,hd4,hlb4,hdb4,gB⟩;have PF:=ae hd4;have HDL4:=aH (W3.heap.size≤lb∧W3.heap.size≤db) (⟨hlb4,hdb4⟩);have uo:=ae (gB.az kj.drew id);have jb:=ae (b7.drew.trans gB);have HSZ3:=aH (w.heap.size≤W3.heap.size) (b7.size);clear hd4 hlb4 hdb4 gB;refine lj hK ?_ fun aX=>?_
   ·first|exact kj.drew|exact uo|exact Ga
   clear hK;refine lh 2 fun KcZq hK=>?_
   go_simp;have HN:=ae (ara_new_no (db:=db) hP W4 (tY.keep jb));refine HN.mono ?_;rintro e W5 ⟨rfl,eD⟩;have kh:=ae (jb.trans eD);have Ga:=ae (eD.az uo id);clear eD HN;refine lj hK ?_ fun aX=>?_
   ·first|exact kj.drew|exact uo|exact Ga
   clear hK;refine eZ [3,4,5,6] ?_;refine jz ?_;go_wp2_with fail;go_ret;exact⟨rfl,kh⟩
end
end Go.Proofs.YtpcfhbeakecihaaGreat

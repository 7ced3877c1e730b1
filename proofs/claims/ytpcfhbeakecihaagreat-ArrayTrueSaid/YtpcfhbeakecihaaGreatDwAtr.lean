/- texts Atr -/
import Derived.Test.YtpcfhbeakecihaaGreatDwArk
import Derived.Test.YtpcfhbeakecihaaGreatM3
import Derived.Test.YtpcfhbeakecihaaGreatM2
import Derived.Test.YtpcfhbeakecihaaGreatM1
import Derived.Test.YtpcfhbeakecihaaGreatM4
import Derived.Test.YtpcfhbeakecihaaGreatM5
set_option linter.all false
set_option maxHeartbeats 20000000
set_option maxRecDepth 100000
namespace Go.Proofs.YtpcfhbeakecihaaGreat
open Go.RowKit Go.ChangeShapes Go.WideShapes
def AtRel (c:aN)(hP:dJ c)(hk:2<3)(cfb:Nat)(cv:Value)(db lb n:Nat)(w:World)(avZq ev iv:Value)(wr:World):Prop:=
 ∃(k:Nat) (a:ArrA (jW c 2 hP hk)) (M:AMZq (jW c 2 hP hk).σ),k≤n∧iv=ah k∧avZq=aI a.ab∧a.db=db∧a.lb=lb∧AtI cfb cv k w a M wr∧ATru c M
theorem AtI.az {c:aN}{hP:dJ c}{hk:2<3}{cfb k:Nat}{cv:Value}{w wr w':World}{a:ArrA (jW c 2 hP hk)}{M:AMZq (jW c 2 hP hk).σ}(h:AtI cfb cv k w a M wr){g:Nat}{cs:Array Value}(hb:Box wr g 39 cs)(hg:w.heap.size≤g)(hh:0<c.h.length→∀k,aJ a.hv k→k<g)(ho:af (aM g) wr w'):AtI cfb cv k w a M w':=
 ⟨h.b.off ho (fun k _ e=>by rw[show k=g from e];exact⟨hg,.inr fun cs' hx=>absurd (hx.same hb).1 (by decide)⟩) (fun k hk e=>by have e:k=g:=e;subst e;exact absurd (h.b.M8 hk hb) (by decide)) (fun e=>by have e:a.sb=g:=e;subst e;exact absurd (hb.same h.b.sto.az).1 (by decide)) (fun h0 k hk e=>by have e:k=g:=e;have:=hh h0 k hk;omega),h.sk,h.rd,ho.az h.cf (fun e=>by have e:cfb=g:=e;subst e;exact absurd (hb.same h.cf).1 (by decide)),h.o.aE ho fun k hk=>.inr (by rw[show k=g from hk];exact hg)⟩
section
theorem atrue_walk (c:aN)(L:List lG)(A B:Option Addr)(m n:Nat)(w:World)(bI:aL w A c.h.length m c.h)(hL:dN w.heap.size w B L.length n L)(hLB:∀i,i<L.length→sm (L.getD i default).d):
 Calls Tryz.prog 3 #[.agg (aj c (.slice A c.h.length m)),.slice B L.length n] w fun e w'=>e= .returned (.bool true)∧af aA w w':=by
 have tY:=ae bI;have HL:=ae hL;have um:=ae hLB;have HMX:=ae (Nat.le_trans hL.cap hL.max);have HMH:=ae (Nat.le_trans bI.cap bI.max);have HB:=ae (Box.fresh w 25 (aj c (.slice A c.h.length m)));have HO:=ae ((af.ak aA w).alloc (.cells (aj c (.slice A c.h.length m)) 25));clear bI hL hLB
 go_enter Tryz.func3,Tryz.ntmps3
 go_upto_region 1 with fail;change Code.wp _ _ _ _ (w.alloc (.cells (aj c (.slice A c.h.length m)) 25));generalize w.alloc (.cells (aj c (.slice A c.h.length m)) 25)=W1 at *;obtain⟨cfb,hcf⟩:∃cfb,cfb=w.heap.size:=⟨_,rfl⟩;rw[←hcf]at HB ⊢;have HCF:=ae hcf;clear hcf;go_upto_region 3 with(go_at_call 7;refine(zK W1).mono ?_;rintro e W2 ⟨rfl,bd⟩);have eC:=ae (bd.az HB id);have bR:=ae (HO.trans bd);clear bd HB HO;have HLG:=ae (BF (cf:=c) (A:=A) (m:=m) (HL.keep bR) HMH);go_upto_if 22 with(first|(refine pL (aj c (.slice A c.h.length m)) eC Tryz.underlying25 ?_)|(go_at_call 8;refine HLG.mono ?_;rintro e W3 ⟨rfl,bQ⟩));have kj:=ae (bQ.az eC id);have b7:=ae (bR.trans bQ);clear bQ eC bR HLG
 cases Fj:rE c.h.length L with
 |true=>
  clear Fj;go_wp2;go_ret;exact⟨rfl,b7⟩
 |false=>
  obtain⟨_,NW,wG⟩:=EI Fj;have zm:=ae NW;have HL3:=ae wG;clear Fj NW wG;go_upto_region 6 with(go_at_call 9;refine(xN W3).mono ?_;rintro e W4 ⟨db,lb,rfl,hd4,hlb4,hdb4,gB⟩);have PF:=ae hd4;have HDL4:=aH (W3.heap.size≤lb∧W3.heap.size≤db) (⟨hlb4,hdb4⟩);have uo:=ae (gB.az kj id);have jb:=ae (b7.trans gB);have HSZ3:=aH (w.heap.size≤W3.heap.size) (b7.size);clear hd4 hlb4 hdb4 gB kj b7
  by_cases hP:dJ c
  ·have HN:=ae (ara_new (Z:=⟨w.heap.size,fun _=>False⟩) (EL hP (by decide:2<3)) (Gq hP (by decide:2<3)) hP W4 (tY.keep jb) PF rfl rfl (fun i x hx=>by cases hx) (fun _ _ _ _=>id) (by have h1:=HDL4.out;have h2:=HSZ3.out;have h3:=jb.size;exact⟨by show w.heap.size≤db;omega,by show w.heap.size≤lb;omega,h3⟩) (fun k h=>h.elim));have HA0:=ae (EM (k:=2) (hP:=hP) (hk:=(by decide:2<3)));go_upto_region 7 with(first|(refine pL (aj c (.slice A c.h.length m)) uo Tryz.underlying25 ?_)|(go_at_call 10;refine HN.mono ?_;rintro e W5 ⟨a0,rfl,had,mK,h5,o5,_⟩;have HQ5:=aH (AtI (hP:=hP) (hk:=(by decide:2<3)) cfb (.slice A c.h.length m) 0 w a0 _ W5) (⟨h5,by show(jW c 2 hP (by decide)).sp.sk (jW c 2 hP (by decide)).s0≤_;rw[HA0.out];exact Nat.zero_le _,Nat.le_refl _,o5.az uo (fun e=>by have h1:=uo.out;rcases e with e|e;(rw[e]at h1;exact absurd (h1.same PF.az).1 (by decide));(rw[e]at h1;exact absurd (h1.same PF.row).1 (by decide))),jb.aE o5 fun k hk=>.inr (by have h1:=HDL4.out;have h2:=HSZ3.out;rcases hk with e|e<;>omega)⟩);have Gb:=ae had;have xl:=ae mK;clear had mK h5 o5));have HT5:=aH (ATru c (⟨(jW c 2 hP (by decide)).s0,fun _=>none,stOpen (sr c) (c.f 3).toNat ⟨fun _=>[],-1,false⟩,false,0⟩:AMZq (jW c 2 hP (by decide)).σ)) (.inr ⟨(stOpen_free rfl rfl).2,fun b l h=>by cases h⟩);clear HN uo;go_upto_region 10 with fail
   go_loopw [6,7,34] (fun avZq ev iv wr=>AtRel c hP (by decide) cfb (.slice A c.h.length m) db lb L.length w avZq ev iv wr) (fun _ _ iv _=>L.length - (intOf iv).toNat)
   case atStart=>exact⟨0,a0,_,Nat.zero_le _,rfl,rfl,Gb,xl,HQ5,HT5⟩
   case round=>
    clear HQ5 HT5 Gb xl jb PF HDL4 HSZ3;obtain⟨k,a,M,hk9,rfl,rfl,hdb,Fj,hI,hT⟩:=hrel;subst hdb Fj;have PA:=ae hI;have HT:=ae hT;clear hI hT
    by_cases aO:k<L.length
    ·obtain⟨g,ogZq,dv,rfl,hg,rm,eE,bp⟩:=(HL.keep PA.o).at_ k aO;have mO:(k:Int)<L.length:=by omega
     have hk1000:(k:Int)<1000:=by have:=zm.out;omega
     have cT:=ae aO;have HK1:=ae (show k<100 by have:=zm.out;omega);have Mo:=ae (um k aO);have F6:=ae rm;have HDD:=aH (pZ ⟨w.heap.size,fun _=>False⟩ wr dv (L.getD k default).d) (⟨eE,fun h0 k hk=>.inl (bp k h0 hk)⟩);clear rm aO hk9 eE bp;generalize L.getD k default=x at *;obtain⟨dA,dc,rfl⟩:=HDD.shape;have HRC:=aH (∀j v,(DT x (.slice dA x.d.length dc)).toList[j]? =some v→ba wr g (ogZq+k*12+j) v) (fun j v hj=>F6 j v (by rw[←Array.getElem?_toList];exact hj));go_upto_region 23 with(first|(refine wpList_load_mid rfl 39 _ rfl g (ogZq+k*12) rfl (DT x (.slice dA x.d.length dc)).toList _ HRC Tryz.underlying39 rfl (by kernel_rfl) ?_)|(refine pT (DT x (.slice dA x.d.length dc)) (Box.fresh wr 39 zAcY) (actY_one _ _ _ _) ?_));have nQ:af aA wr ((wr.alloc (.cells zAcY 39)).setRow wr.heap.size (DT x (.slice dA x.d.length dc))):=((af.ak aA wr).alloc _).aK (.inr (Nat.le_refl _)) _;have MD:=ae ((Box.fresh wr 39 zAcY).aK (DT x (.slice dA x.d.length dc)));have HI:=ae (PA.keep nQ);have HHV:=ae PA.b.aO;have HACB:=aH (w.heap.size≤wr.heap.size) (PA.o.size);have HDA:=ae (HDD.keep nQ);change Code.wp _ _ _ _ ((wr.alloc (.cells zAcY 39)).setRow wr.heap.size (DT x (.slice dA x.d.length dc)));clear nQ PA HDD F6 HRC;generalize(wr.alloc (.cells zAcY 39)).setRow wr.heap.size (DT x (.slice dA x.d.length dc))=W8 at *;generalize wr.heap.size=acb at *
     try simp only[Act.put]
     have x0:aF W8 acb 0 x.b9:=MD.ag rfl
     by_cases Fp:0<x.b9
     ·have Mu:=ae (ara_fuse HI.b (IntKind.i64.wrap (x.b9 - 1)) (by rw[IntKind.wrap_i64];omega));generalize w8:IntKind.i64.wrap (x.b9 - 1)=nf at Mu;go_upto_region 24 with fail;go_upto_region 30 with(go_at_call 11;refine Mu.mono ?_;rintro e W9 ⟨rfl,V9,h9,o9Zq⟩);have HI9:=ae (HI.p6 (D':=a.D) h9 o9Zq (by show(jW c 2 hP (by decide)).sp.sk M.s≤_;omega) (by show M.reads≤_;omega));have HT9:=ae (HT.b9 nf);clear h9 o9Zq w8;have HDN0:=sec_down HI9.b.sto.B1;have HDN:=ae HDN0;clear HDN0;have HT30:=HT9.out;rcases HT30 with htd|⟨htd,_⟩
      ·have HDA:=ae (ara_down HI9.b);rw[htd]at HDA;have Pk:=aH (AtRel c hP (by decide) cfb (.slice A c.h.length m) a.db a.lb L.length w (aI a.ab) u7 (ah ((k:Int)+1)) W9) (⟨k+1,{a with D:=a.D,V:=V9},_,cT,by simp,rfl,rfl,rfl,HI9,HT9⟩);generalize(({M with d:=fuseD M.d nf}:AMZq (jW c 2 hP (by decide)).σ)).d.down=dd at HDN
       cases dd with
       |true=>
        go_wp2_with (first|(go_at_call 16;refine HDN.mono ?_;rintro e W20 ⟨rfl,rfl⟩)|(go_at_call 17;refine HDA.mono ?_;rintro e W21 ⟨rfl,rfl⟩))
        go_roundw
        case rel=>(repeat first|exact Pk|(refine⟨Pk,?_⟩;(repeat(first|exact rfl|refine⟨rfl,?_⟩)))|apply Exists.intro)
        case measure=>simp[intOf];have:=cT.out;omega
       |false=>
        go_wp2_with (first|(go_at_call 16;refine HDN.mono ?_;rintro e W20 ⟨rfl,rfl⟩)|(go_at_call 17;refine HDA.mono ?_;rintro e W21 ⟨rfl,rfl⟩))
        go_roundw
        case rel=>(repeat first|exact Pk|(refine⟨Pk,?_⟩;(repeat(first|exact rfl|refine⟨rfl,?_⟩)))|apply Exists.intro)
        case measure=>simp[intOf];have:=cT.out;omega
      ·rw[htd]at HDN;have Pk:=aH (AtRel c hP (by decide) cfb (.slice A c.h.length m) a.db a.lb L.length w (aI a.ab) u7 (ah ((k:Int)+1)) W9) (⟨k+1,{a with D:=a.D,V:=V9},_,cT,by simp,rfl,rfl,rfl,HI9,HT9⟩);go_wp2_with (go_at_call 16;refine HDN.mono ?_;rintro e W20 ⟨rfl,rfl⟩)
       go_roundw
       case rel=>(repeat first|exact Pk|(refine⟨Pk,?_⟩;(repeat(first|exact rfl|refine⟨rfl,?_⟩)))|apply Exists.intro)
       case measure=>simp[intOf];have:=cT.out;omega
     ·by_cases Ak:x.b9<0
      ·have Mu:=ae (sec_up HI.b.sto.B1);go_upto_region 27 with(go_at_call 12;refine Mu.mono ?_;rintro e W9 ⟨rfl,hd9,o9Zq⟩);have HD9:=ae hd9;have HC9:=ae (o9Zq.az HI.cf fun e=>by have e:cfb=a.db:=e;have h1:=HI.cf;rw[e]at h1;exact absurd (h1.same HI.b.sto.B1.az).1 (by decide));have HO9:=ae (HI.o.aE o9Zq fun k hk=>.inr (by rw[show k=a.db from hk];exact HI.b.lo _ (.inr (.inr (.inr (.inr (.inl rfl)))))));have HN:=ae (ara_new (Z:=⟨w.heap.size,fun _=>False⟩) (EL hP (by decide:2<3)) (Gq hP (by decide:2<3)) hP W9 (tY.keep HO9) HD9 rfl rfl HI.b.sto.EY (fun _ _ _ _=>id) ⟨HI.b.lo _ (.inr (.inr (.inr (.inr (.inl rfl))))),HI.b.lo _ (.inr (.inr (.inr (.inr (.inr rfl))))),HO9.size⟩ (fun k h=>h.elim));clear hd9 o9Zq Mu;go_upto_region 28 with(first|(refine pL (aj c (.slice A c.h.length m)) HC9 Tryz.underlying25 ?_)|(go_at_call 10;refine HN.mono ?_;rintro e Lc ⟨a2,rfl,had,mK,h5,o5,_⟩;have HI9:=aH (AtI (hP:=hP) (hk:=(by decide:2<3)) cfb (.slice A c.h.length m) (k+1) w a2 _ Lc) (⟨h5,by show(jW c 2 hP (by decide)).sp.sk (jW c 2 hP (by decide)).s0≤_;rw[HA0.out];exact Nat.zero_le _,Nat.zero_le _,o5.az HC9 (fun e=>by have h1:=HC9.out;rcases e with e|e;(rw[e]at h1;exact absurd (h1.same HD9.az).1 (by decide));(rw[e]at h1;exact absurd (h1.same HD9.row).1 (by decide))),HO9.aE o5 fun k hk=>.inr (by rcases hk with e|e;(rw[e];exact HI.b.lo _ (.inr (.inr (.inr (.inr (.inl rfl))))));(rw[e];exact HI.b.lo _ (.inr (.inr (.inr (.inr (.inr rfl)))))))⟩);have Gb:=ae had;have xl:=ae mK;clear had mK h5 o5));have HT9:=aH (ATru c (⟨(jW c 2 hP (by decide)).s0,fun _=>none,stOpen (sr c) (c.f 3).toNat (upD M.d),false,0⟩:AMZq (jW c 2 hP (by decide)).σ)) (.inr ⟨(stOpen_free rfl rfl).2,fun b l h=>by cases h⟩);clear HN HC9 HO9 HD9;generalize(⟨(jW c 2 hP (by decide)).s0,fun _=>none,stOpen (sr c) (c.f 3).toNat (upD M.d),false,0⟩:AMZq (jW c 2 hP (by decide)).σ)=M2 at HI9 HT9;go_upto_region 30 with fail;have HDN0:=sec_down HI9.b.sto.B1;rw[Gb.out]at HDN0;have HDN:=ae HDN0;clear HDN0;have HT30:=HT9.out;rcases HT30 with htd|⟨htd,_⟩
       ·have HDA:=ae (ara_down HI9.b);rw[htd]at HDA;have Pk:=aH (AtRel c hP (by decide) cfb (.slice A c.h.length m) a.db a.lb L.length w (aI a2.ab) (ah 0) (ah ((k:Int)+1)) Lc) (⟨k+1,a2,_,cT,by simp,rfl,Gb,xl,HI9,HT9⟩);generalize(M2).d.down=dd at HDN
        cases dd with
        |true=>
         go_wp2_with (first|(go_at_call 16;refine HDN.mono ?_;rintro e W20 ⟨rfl,rfl⟩)|(go_at_call 17;refine HDA.mono ?_;rintro e W21 ⟨rfl,rfl⟩))
         go_roundw
         case rel=>(repeat first|exact Pk|(refine⟨Pk,?_⟩;(repeat(first|exact rfl|refine⟨rfl,?_⟩)))|apply Exists.intro)
         case measure=>simp[intOf];have:=cT.out;omega
        |false=>
         go_wp2_with (first|(go_at_call 16;refine HDN.mono ?_;rintro e W20 ⟨rfl,rfl⟩)|(go_at_call 17;refine HDA.mono ?_;rintro e W21 ⟨rfl,rfl⟩))
         go_roundw
         case rel=>(repeat first|exact Pk|(refine⟨Pk,?_⟩;(repeat(first|exact rfl|refine⟨rfl,?_⟩)))|apply Exists.intro)
         case measure=>simp[intOf];have:=cT.out;omega
       ·rw[htd]at HDN;have Pk:=aH (AtRel c hP (by decide) cfb (.slice A c.h.length m) a.db a.lb L.length w (aI a2.ab) (ah 0) (ah ((k:Int)+1)) Lc) (⟨k+1,a2,_,cT,by simp,rfl,Gb,xl,HI9,HT9⟩);go_wp2_with (go_at_call 16;refine HDN.mono ?_;rintro e W20 ⟨rfl,rfl⟩)
        go_roundw
        case rel=>(repeat first|exact Pk|(refine⟨Pk,?_⟩;(repeat(first|exact rfl|refine⟨rfl,?_⟩)))|apply Exists.intro)
        case measure=>simp[intOf];have:=cT.out;omega
      ·have hf3:¬0<x.b9∧¬x.b9<0:=⟨Fp,Ak⟩;have x1:aF W8 acb 1 (x.m.f 0):=MD.ag rfl
       by_cases hk10:x.m.f 0=10
       ·have hkb:(x.m.f 0==10)=true:=by rw[hk10];rfl
        have x6:aF W8 acb 6 (x.m.f 5):=MD.ag rfl;have Io:=ara_stored HI.b (x.m.f 5)
        by_cases Hn:0≤x.m.f 5∧x.m.f 5<c.f 2
        ·rw[if_pos Hn,if_pos Hn]at Io;have Io:=ae Io;have MF:=ae Hn;have HBA:=aH (sm (aSto c M (x.m.f 5)).2) (blkOf_isB (HI.b.sto.EY _));have FR:=aH ((aSto c M (x.m.f 5)).2.length≤16) (by unfold aSto;rw[mF];have:=hP.p3;omega);clear hk10 Hn;go_upto_region 14 with(go_at_call 13;refine Io.mono ?_;rintro e W9 ⟨vs,rfl,hr9,Fa,hf9⟩;obtain⟨As,cs,es,_,_⟩:=hr9.shape;subst es;rw[cE]at hr9;have HR9:=ae hr9;have HO9:=ae Fa;clear hr9 Fa hf9);have HBX9:=ae (HO9.az MD id);have Qa:ba W9 acb 11 (.slice dA x.d.length dc):=HBX9.ag rfl;have g11:W9.frozen? ⟨acb,11,none⟩=false:=HBX9.free _;clear x0 x1 x6;go_upto_region 16 with fail;have j10:af (aM acb) W9 (W9.setCell ⟨acb,11,none⟩ (.slice As (aSto c M (x.m.f 5)).2.length cs)):=(af.ak (aM acb) W9).setCell (p:=⟨acb,11,none⟩) (.inl (show aM acb acb from rfl)) _;have hi10:=(HI.keep HO9).az HBX9 HACB HHV j10;have hda10:pZ ⟨w.heap.size,fun _=>False⟩ (W9.setCell ⟨acb,11,none⟩ (.slice As (aSto c M (x.m.f 5)).2.length cs)) (.slice As (aSto c M (x.m.f 5)).2.length cs) (aSto c M (x.m.f 5)).2:=(pZ.row (Z:=⟨w.heap.size,fun _=>False⟩) HR9 (by have:=FR.out;omega) (fun _ _ h=>h)).ao j10 fun k _ e=>by rw[show k=acb from e];exact⟨HACB,.inr fun cs' hx=>absurd (hx.same HBX9).1 (by decide)⟩
         have hbx10:Box (W9.setCell ⟨acb,11,none⟩ (.slice As (aSto c M (x.m.f 5)).2.length cs)) acb 39 (DT x (.slice As (aSto c M (x.m.f 5)).2.length cs)):=HBX9.store 11 _;clear HI HDA MD;have HI:=ae hi10;have HDA:=ae hda10;have MD:=ae hbx10;clear j10 hi10 hda10 hbx10 Qa g11 Io HR9 HO9 HBX9;change Code.wp _ _ _ _ (W9.setCell ⟨acb,11,none⟩ (.slice As (aSto c M (x.m.f 5)).2.length cs));generalize W9.setCell ⟨acb,11,none⟩ (.slice As (aSto c M (x.m.f 5)).2.length cs)=WB at *;have HDM:=aH (x.m.f 0=10→0≤x.m.f 5∧x.m.f 5<c.f 2∧(aSto c M (x.m.f 5)).2=(aSto c M (x.m.f 5)).2) (fun _=>⟨MF.1,MF.2,rfl⟩);have HMC:=aH (∀j v,(bc x.m (.slice As (aSto c M (x.m.f 5)).2.length cs)).toList[j]? =some v→ba WB acb (1+j) v) (fun j v hj=>by
          have hj11:j<11:=(List.getElem?_eq_some_iff.1 hj).1;refine MD.ag ?_;rw[Array.getElem?_toList]at hj;rcases(show j=0∨j=1∨j=2∨j=3∨j=4∨j=5∨j=6∨j=7∨j=8∨j=9∨j=10 by omega)with rfl|rfl|rfl|rfl|rfl|rfl|rfl|rfl|rfl|rfl|rfl<;>exact hj)
         have HHR:=ae (ara_hear (m:=x.m) HI.b HDA HBA (by have h1:=HI.sk;have h2:=HK1.out;unfold jH;omega) (by have h1:=HI.rd;have h2:=HK1.out;omega));have ub:=aHear_true (sp:=(jW c 2 hP (by decide)).sp) (t:=(aSto c M (x.m.f 5)).2) hP HT x.m HDM;have hag:=aHear_age (K:=jW c 2 hP (by decide)) (c:=c) (M:=M) (t:=(aSto c M (x.m.f 5)).2) a.i (sr c) x.m;unfold TelP at HHR;generalize aHearM (jW c 2 hP (by decide)).sp c (sr c) M x.m (aSto c M (x.m.f 5)).2=M2 at HHR ub hag;generalize aHearT (jW c 2 hP (by decide)).sp c (sr c) M x.m (aSto c M (x.m.f 5)).2=TL at HHR ub;have HT9:=ae ub.1;have FR:=ae ub.2;have IL:=ae hag;clear ub hag;go_upto_region 17 with(first|(refine wpList_load_mid rfl 37 _ rfl acb 1 rfl (bc x.m (.slice As (aSto c M (x.m.f 5)).2.length cs)).toList _ HMC Tryz.underlying37 rfl (by kernel_rfl) ?_)|(go_at_call 14;refine HHR.mono ?_;rintro e Lc ⟨u,rfl,hm10,D10,V10,C5,o10⟩;obtain⟨AuZq,cuZq,euZq,hcu1,hcu2⟩:=hm10.shape;subst euZq;have HM10:=ae hm10;have HI9:=ae (HI.p6 C5 o10 IL.1 IL.2);have HCU:=aH (TL.length≤maxLen) (Nat.le_trans hcu1 hcu2);clear hm10 C5 o10 hcu1 hcu2));clear HHR HMC;have htlm:(TL.length:Int)≤9223372036854775807:=by have:=HCU.out;unfold maxLen at this;omega
         go_loopw [61] (fun iv wr=>AhRel TL.length Lc iv wr) (fun iv _=>TL.length - (intOf iv).toNat)
         case atStart=>exact⟨0,Nat.zero_le _,rfl,af.ak _ _⟩
         case round=>
          obtain⟨j,hj9,rfl,ho⟩:=hrel;have HOJ:=ae ho;clear ho
          by_cases Aj:j<TL.length
          ·have ze:(j:Int)<TL.length:=by omega
           have HJL:=ae Aj;obtain⟨gm,cm,AmZq,nm,egm,Fv,Al⟩:=(HM10.keep HOJ).at_ Aj;injection egm with egA _ egC;subst egA egC;have Im:=ae (FR (TL.getD j pm0) (by rw[List.getD_eq_getElem?_getD,List.getElem?_eq_getElem Aj];exact List.getElem_mem Aj));have HCM:=aH (∀i v,(bc (TL.getD j pm0).m (.slice AmZq (TL.getD j pm0).d.length nm)).toList[i]? =some v→ba wr gm (j*11+i) v) (fun i v hi=>Fv i v (by rw[←Array.getElem?_toList];exact hi));have HDM2:=ae Al;clear Aj hj9 Fv Al;generalize TL.getD j pm0=p at *;obtain⟨pm,pdZq⟩:=p;dsimp only at *;go_upto_region 19 with(first|(refine wpList_load_mid rfl 37 _ rfl gm (j*11) rfl (bc pm (.slice AmZq pdZq.length nm)).toList _ HCM Tryz.underlying37 rfl (by kernel_rfl) ?_)|(refine pT (bc pm (.slice AmZq pdZq.length nm)) (Box.fresh wr 37 zMsR) (by simp[bc,Value.oneCell']) ?_));have ho12:af aA wr ((wr.alloc (.cells zMsR 37)).setRow wr.heap.size (bc pm (.slice AmZq pdZq.length nm))):=((af.ak aA wr).alloc _).aK (.inr (Nat.le_refl _)) _;have HMX:=ae ((Box.fresh wr 37 zMsR).aK (bc pm (.slice AmZq pdZq.length nm)));have HOX:=ae (HOJ.trans ho12);have HDP:=ae (HDM2.keep ho12);clear ho12 HDM2 HCM;change Code.wp _ _ _ _ ((wr.alloc (.cells zMsR 37)).setRow wr.heap.size (bc pm (.slice AmZq pdZq.length nm)));generalize(wr.alloc (.cells zMsR 37)).setRow wr.heap.size (bc pm (.slice AmZq pdZq.length nm))=La at *;generalize wr.heap.size=mbx at *
           try simp only[Act.put]
           have Io:=ara_stored (HI9.b.keep HOX) (pm.f 5);have z5:aF La mbx 5 (pm.f 5):=HMX.ag rfl
           by_cases OJ:pm.f 0=12
           ·by_cases c0:pm.f 8=0
            ·have J3:=Im.out OJ c0;rw[if_pos ⟨J3.1,J3.2.1⟩,if_pos ⟨J3.1,J3.2.1⟩]at Io;have hpd:(aSto c M2 (pm.f 5)).2=pdZq:=J3.2.2.symm;rw[show aSto c M2 (pm.f 5)=aSto c M2 (pm.f 5)from rfl,hpd]at Io;have Io:=ae Io;have c12b:(pm.f 0==12)=true:=by rw[OJ];rfl
             have c0b:(pm.f 8==0)=true:=by rw[c0];rfl
             clear OJ c0 J3 hpd;go_upto_region 20 with(go_at_call 13;refine Io.mono ?_;rintro e K9 ⟨vs,rfl,hr13,ho13,_⟩;obtain⟨As,cs,es,_,_⟩:=hr13.shape;subst es;rw[cE]at hr13;have HR13:=ae hr13;have HO13:=ae ho13;clear hr13 ho13);have z0:aF K9 mbx 0 (pm.f 0):=(HO13.az HMX id).ag rfl;have z8:aF K9 mbx 8 (pm.f 8):=(HO13.az HMX id).ag rfl;have MZ:ba K9 mbx 10 (.slice AmZq pdZq.length nm):=(HO13.az HMX id).ag rfl;have wD:=oG _ _ pdZq pdZq K9 (HR13.nR HDP.1.len.2) (HDP.1.ao HO13 fun _ _=>id);rw[show decide (pdZq=pdZq)=true by simp]at wD;have Iq:=ae wD;clear wD z5;have HRJ:=aH (∀W,af aA K9 W→AhRel TL.length Lc (ah ((j:Int)+1)) W) (fun W hW=>⟨j+1,HJL,by simp,(HOX.trans HO13).trans hW⟩);go_wp2_with (go_at_call 15;refine Iq.mono ?_;rintro e QZ ⟨rfl,m14,rfl⟩;have HRK:=ae (HRJ _ ((af.ak aA K9).drewN m14)))
             go_roundw
             case rel=>(repeat first|exact HRK|(refine⟨HRK,?_⟩;(repeat(first|exact rfl|refine⟨rfl,?_⟩)))|apply Exists.intro)
             case measure=>simp[intOf];have:=HJL.out;omega
            ·have c12b:(pm.f 0==12)=true:=by rw[OJ];rfl
             have c0b:(pm.f 8==0)=false:=by simpa using c0
             clear OJ c0;generalize(if 0≤pm.f 5∧pm.f 5<c.f 2 then(0:Int)else 9)=fv at Io;generalize(if 0≤pm.f 5∧pm.f 5<c.f 2 then(aSto c M2 (pm.f 5)).2 else[])=tvZq at Io;have Io:=ae Io;go_upto_region 20 with(go_at_call 13;refine Io.mono ?_;rintro e K9 ⟨vs,rfl,hr13,ho13,_⟩;have HO13:=ae ho13;clear hr13 ho13);have z0:aF K9 mbx 0 (pm.f 0):=(HO13.az HMX id).ag rfl;have z8:aF K9 mbx 8 (pm.f 8):=(HO13.az HMX id).ag rfl;clear z5;have HRK:=aH (AhRel TL.length Lc (ah ((j:Int)+1)) K9) (⟨j+1,HJL,by simp,HOX.trans HO13⟩);go_wp2_with fail
             go_roundw
             case rel=>(repeat first|exact HRK|(refine⟨HRK,?_⟩;(repeat(first|exact rfl|refine⟨rfl,?_⟩)))|apply Exists.intro)
             case measure=>simp[intOf];have:=HJL.out;omega
           ·have c12b:(pm.f 0==12)=false:=by simpa using OJ
            clear OJ;generalize(if 0≤pm.f 5∧pm.f 5<c.f 2 then(0:Int)else 9)=fv at Io;generalize(if 0≤pm.f 5∧pm.f 5<c.f 2 then(aSto c M2 (pm.f 5)).2 else[])=tvZq at Io;have Io:=ae Io;go_upto_region 20 with(go_at_call 13;refine Io.mono ?_;rintro e K9 ⟨vs,rfl,hr13,ho13,_⟩;have HO13:=ae ho13;clear hr13 ho13);have z0:aF K9 mbx 0 (pm.f 0):=(HO13.az HMX id).ag rfl;have z8:aF K9 mbx 8 (pm.f 8):=(HO13.az HMX id).ag rfl;clear z5;have HRK:=aH (AhRel TL.length Lc (ah ((j:Int)+1)) K9) (⟨j+1,HJL,by simp,HOX.trans HO13⟩);go_wp2_with fail
            go_roundw
            case rel=>(repeat first|exact HRK|(refine⟨HRK,?_⟩;(repeat(first|exact rfl|refine⟨rfl,?_⟩)))|apply Exists.intro)
            case measure=>simp[intOf];have:=HJL.out;omega
          ·obtain rfl:j=TL.length:=by omega
           have HI9:=ae (HI9.keep HOJ);clear Aj hj9;go_upto_region 30 with fail;have HDN0:=sec_down HI9.b.sto.B1;have HDN:=ae HDN0;clear HDN0;have HT30:=HT9.out;rcases HT30 with htd|⟨htd,_⟩
           ·have HDA:=ae (ara_down HI9.b);rw[htd]at HDA;have Pk:=aH (AtRel c hP (by decide) cfb (.slice A c.h.length m) a.db a.lb L.length w (aI a.ab) u7 (ah ((k:Int)+1)) wr) (⟨k+1,{a with D:=D10,V:=V10},_,cT,by simp,rfl,rfl,rfl,HI9,HT9⟩);generalize(M2).d.down=dd at HDN
            cases dd with
            |true=>
             go_wp2_with (first|(go_at_call 16;refine HDN.mono ?_;rintro e W20 ⟨rfl,rfl⟩)|(go_at_call 17;refine HDA.mono ?_;rintro e W21 ⟨rfl,rfl⟩))
             go_roundw
             case rel=>(repeat first|exact Pk|(refine⟨Pk,?_⟩;(repeat(first|exact rfl|refine⟨rfl,?_⟩)))|apply Exists.intro)
             case measure=>simp[intOf];have:=cT.out;omega
            |false=>
             go_wp2_with (first|(go_at_call 16;refine HDN.mono ?_;rintro e W20 ⟨rfl,rfl⟩)|(go_at_call 17;refine HDA.mono ?_;rintro e W21 ⟨rfl,rfl⟩))
             go_roundw
             case rel=>(repeat first|exact Pk|(refine⟨Pk,?_⟩;(repeat(first|exact rfl|refine⟨rfl,?_⟩)))|apply Exists.intro)
             case measure=>simp[intOf];have:=cT.out;omega
           ·rw[htd]at HDN;have Pk:=aH (AtRel c hP (by decide) cfb (.slice A c.h.length m) a.db a.lb L.length w (aI a.ab) u7 (ah ((k:Int)+1)) wr) (⟨k+1,{a with D:=D10,V:=V10},_,cT,by simp,rfl,rfl,rfl,HI9,HT9⟩);go_wp2_with (go_at_call 16;refine HDN.mono ?_;rintro e W20 ⟨rfl,rfl⟩)
            go_roundw
            case rel=>(repeat first|exact Pk|(refine⟨Pk,?_⟩;(repeat(first|exact rfl|refine⟨rfl,?_⟩)))|apply Exists.intro)
            case measure=>simp[intOf];have:=cT.out;omega
        ·rw[if_neg Hn,if_neg Hn]at Io;have Io:=ae Io;clear hk10 Hn;go_upto_region 14 with(go_at_call 13;refine Io.mono ?_;rintro e W9 ⟨vs,rfl,hr9,Fa,hf9⟩;have HO9:=ae Fa;clear hr9 Fa hf9);have Pk:=aH (AtRel c hP (by decide) cfb (.slice A c.h.length m) a.db a.lb L.length w (aI a.ab) u7 (ah ((k:Int)+1)) W9) (⟨k+1,a,_,cT,by simp,rfl,rfl,rfl,(HI.keep HO9).next,HT⟩);go_wp2_with fail
         go_roundw
         case rel=>(repeat first|exact Pk|(refine⟨Pk,?_⟩;(repeat(first|exact rfl|refine⟨rfl,?_⟩)))|apply Exists.intro)
         case measure=>simp[intOf];have:=cT.out;omega
       ·have hkb:(x.m.f 0==10)=false:=by simpa using hk10
        have HDM:=aH (x.m.f 0=10→0≤x.m.f 5∧x.m.f 5<c.f 2∧x.d=(aSto c M (x.m.f 5)).2) (fun e=>absurd e hk10);have HBA:=ae Mo;clear hk10;go_upto_region 16 with fail;clear x0 x1;have HMC:=aH (∀j v,(bc x.m (.slice dA x.d.length dc)).toList[j]? =some v→ba W8 acb (1+j) v) (fun j v hj=>by
         have hj11:j<11:=(List.getElem?_eq_some_iff.1 hj).1;refine MD.ag ?_;rw[Array.getElem?_toList]at hj;rcases(show j=0∨j=1∨j=2∨j=3∨j=4∨j=5∨j=6∨j=7∨j=8∨j=9∨j=10 by omega)with rfl|rfl|rfl|rfl|rfl|rfl|rfl|rfl|rfl|rfl|rfl<;>exact hj)
        have HHR:=ae (ara_hear (m:=x.m) HI.b HDA HBA (by have h1:=HI.sk;have h2:=HK1.out;unfold jH;omega) (by have h1:=HI.rd;have h2:=HK1.out;omega));have ub:=aHear_true (sp:=(jW c 2 hP (by decide)).sp) (t:=x.d) hP HT x.m HDM;have hag:=aHear_age (K:=jW c 2 hP (by decide)) (c:=c) (M:=M) (t:=x.d) a.i (sr c) x.m;unfold TelP at HHR;generalize aHearM (jW c 2 hP (by decide)).sp c (sr c) M x.m x.d=M2 at HHR ub hag;generalize aHearT (jW c 2 hP (by decide)).sp c (sr c) M x.m x.d=TL at HHR ub;have HT9:=ae ub.1;have FR:=ae ub.2;have IL:=ae hag;clear ub hag;go_upto_region 17 with(first|(refine wpList_load_mid rfl 37 _ rfl acb 1 rfl (bc x.m (.slice dA x.d.length dc)).toList _ HMC Tryz.underlying37 rfl (by kernel_rfl) ?_)|(go_at_call 14;refine HHR.mono ?_;rintro e Lc ⟨u,rfl,hm10,D10,V10,C5,o10⟩;obtain⟨AuZq,cuZq,euZq,hcu1,hcu2⟩:=hm10.shape;subst euZq;have HM10:=ae hm10;have HI9:=ae (HI.p6 C5 o10 IL.1 IL.2);have HCU:=aH (TL.length≤maxLen) (Nat.le_trans hcu1 hcu2);clear hm10 C5 o10 hcu1 hcu2));clear HHR HMC;have htlm:(TL.length:Int)≤9223372036854775807:=by have:=HCU.out;unfold maxLen at this;omega
        go_loopw [61] (fun iv wr=>AhRel TL.length Lc iv wr) (fun iv _=>TL.length - (intOf iv).toNat)
        case atStart=>exact⟨0,Nat.zero_le _,rfl,af.ak _ _⟩
        case round=>
         obtain⟨j,hj9,rfl,ho⟩:=hrel;have HOJ:=ae ho;clear ho
         by_cases Aj:j<TL.length
         ·have ze:(j:Int)<TL.length:=by omega
          have HJL:=ae Aj;obtain⟨gm,cm,AmZq,nm,egm,Fv,Al⟩:=(HM10.keep HOJ).at_ Aj;injection egm with egA _ egC;subst egA egC;have Im:=ae (FR (TL.getD j pm0) (by rw[List.getD_eq_getElem?_getD,List.getElem?_eq_getElem Aj];exact List.getElem_mem Aj));have HCM:=aH (∀i v,(bc (TL.getD j pm0).m (.slice AmZq (TL.getD j pm0).d.length nm)).toList[i]? =some v→ba wr gm (j*11+i) v) (fun i v hi=>Fv i v (by rw[←Array.getElem?_toList];exact hi));have HDM2:=ae Al;clear Aj hj9 Fv Al;generalize TL.getD j pm0=p at *;obtain⟨pm,pdZq⟩:=p;dsimp only at *;go_upto_region 19 with(first|(refine wpList_load_mid rfl 37 _ rfl gm (j*11) rfl (bc pm (.slice AmZq pdZq.length nm)).toList _ HCM Tryz.underlying37 rfl (by kernel_rfl) ?_)|(refine pT (bc pm (.slice AmZq pdZq.length nm)) (Box.fresh wr 37 zMsR) (by simp[bc,Value.oneCell']) ?_));have ho12:af aA wr ((wr.alloc (.cells zMsR 37)).setRow wr.heap.size (bc pm (.slice AmZq pdZq.length nm))):=((af.ak aA wr).alloc _).aK (.inr (Nat.le_refl _)) _;have HMX:=ae ((Box.fresh wr 37 zMsR).aK (bc pm (.slice AmZq pdZq.length nm)));have HOX:=ae (HOJ.trans ho12);have HDP:=ae (HDM2.keep ho12);clear ho12 HDM2 HCM;change Code.wp _ _ _ _ ((wr.alloc (.cells zMsR 37)).setRow wr.heap.size (bc pm (.slice AmZq pdZq.length nm)));generalize(wr.alloc (.cells zMsR 37)).setRow wr.heap.size (bc pm (.slice AmZq pdZq.length nm))=La at *;generalize wr.heap.size=mbx at *
          try simp only[Act.put]
          have Io:=ara_stored (HI9.b.keep HOX) (pm.f 5);have z5:aF La mbx 5 (pm.f 5):=HMX.ag rfl
          by_cases OJ:pm.f 0=12
          ·by_cases c0:pm.f 8=0
           ·have J3:=Im.out OJ c0;rw[if_pos ⟨J3.1,J3.2.1⟩,if_pos ⟨J3.1,J3.2.1⟩]at Io;have hpd:(aSto c M2 (pm.f 5)).2=pdZq:=J3.2.2.symm;rw[show aSto c M2 (pm.f 5)=aSto c M2 (pm.f 5)from rfl,hpd]at Io;have Io:=ae Io;have c12b:(pm.f 0==12)=true:=by rw[OJ];rfl
            have c0b:(pm.f 8==0)=true:=by rw[c0];rfl
            clear OJ c0 J3 hpd;go_upto_region 20 with(go_at_call 13;refine Io.mono ?_;rintro e K9 ⟨vs,rfl,hr13,ho13,_⟩;obtain⟨As,cs,es,_,_⟩:=hr13.shape;subst es;rw[cE]at hr13;have HR13:=ae hr13;have HO13:=ae ho13;clear hr13 ho13);have z0:aF K9 mbx 0 (pm.f 0):=(HO13.az HMX id).ag rfl;have z8:aF K9 mbx 8 (pm.f 8):=(HO13.az HMX id).ag rfl;have MZ:ba K9 mbx 10 (.slice AmZq pdZq.length nm):=(HO13.az HMX id).ag rfl;have wD:=oG _ _ pdZq pdZq K9 (HR13.nR HDP.1.len.2) (HDP.1.ao HO13 fun _ _=>id);rw[show decide (pdZq=pdZq)=true by simp]at wD;have Iq:=ae wD;clear wD z5;have HRJ:=aH (∀W,af aA K9 W→AhRel TL.length Lc (ah ((j:Int)+1)) W) (fun W hW=>⟨j+1,HJL,by simp,(HOX.trans HO13).trans hW⟩);go_wp2_with (go_at_call 15;refine Iq.mono ?_;rintro e QZ ⟨rfl,m14,rfl⟩;have HRK:=ae (HRJ _ ((af.ak aA K9).drewN m14)))
            go_roundw
            case rel=>(repeat first|exact HRK|(refine⟨HRK,?_⟩;(repeat(first|exact rfl|refine⟨rfl,?_⟩)))|apply Exists.intro)
            case measure=>simp[intOf];have:=HJL.out;omega
           ·have c12b:(pm.f 0==12)=true:=by rw[OJ];rfl
            have c0b:(pm.f 8==0)=false:=by simpa using c0
            clear OJ c0;generalize(if 0≤pm.f 5∧pm.f 5<c.f 2 then(0:Int)else 9)=fv at Io;generalize(if 0≤pm.f 5∧pm.f 5<c.f 2 then(aSto c M2 (pm.f 5)).2 else[])=tvZq at Io;have Io:=ae Io;go_upto_region 20 with(go_at_call 13;refine Io.mono ?_;rintro e K9 ⟨vs,rfl,hr13,ho13,_⟩;have HO13:=ae ho13;clear hr13 ho13);have z0:aF K9 mbx 0 (pm.f 0):=(HO13.az HMX id).ag rfl;have z8:aF K9 mbx 8 (pm.f 8):=(HO13.az HMX id).ag rfl;clear z5;have HRK:=aH (AhRel TL.length Lc (ah ((j:Int)+1)) K9) (⟨j+1,HJL,by simp,HOX.trans HO13⟩);go_wp2_with fail
            go_roundw
            case rel=>(repeat first|exact HRK|(refine⟨HRK,?_⟩;(repeat(first|exact rfl|refine⟨rfl,?_⟩)))|apply Exists.intro)
            case measure=>simp[intOf];have:=HJL.out;omega
          ·have c12b:(pm.f 0==12)=false:=by simpa using OJ
           clear OJ;generalize(if 0≤pm.f 5∧pm.f 5<c.f 2 then(0:Int)else 9)=fv at Io;generalize(if 0≤pm.f 5∧pm.f 5<c.f 2 then(aSto c M2 (pm.f 5)).2 else[])=tvZq at Io;have Io:=ae Io;go_upto_region 20 with(go_at_call 13;refine Io.mono ?_;rintro e K9 ⟨vs,rfl,hr13,ho13,_⟩;have HO13:=ae ho13;clear hr13 ho13);have z0:aF K9 mbx 0 (pm.f 0):=(HO13.az HMX id).ag rfl;have z8:aF K9 mbx 8 (pm.f 8):=(HO13.az HMX id).ag rfl;clear z5;have HRK:=aH (AhRel TL.length Lc (ah ((j:Int)+1)) K9) (⟨j+1,HJL,by simp,HOX.trans HO13⟩);go_wp2_with fail
           go_roundw
           case rel=>(repeat first|exact HRK|(refine⟨HRK,?_⟩;(repeat(first|exact rfl|refine⟨rfl,?_⟩)))|apply Exists.intro)
           case measure=>simp[intOf];have:=HJL.out;omega
         ·obtain rfl:j=TL.length:=by omega
          have HI9:=ae (HI9.keep HOJ);clear Aj hj9;go_upto_region 30 with fail;have HDN0:=sec_down HI9.b.sto.B1;have HDN:=ae HDN0;clear HDN0;have HT30:=HT9.out;rcases HT30 with htd|⟨htd,_⟩
          ·have HDA:=ae (ara_down HI9.b);rw[htd]at HDA;have Pk:=aH (AtRel c hP (by decide) cfb (.slice A c.h.length m) a.db a.lb L.length w (aI a.ab) u7 (ah ((k:Int)+1)) wr) (⟨k+1,{a with D:=D10,V:=V10},_,cT,by simp,rfl,rfl,rfl,HI9,HT9⟩);generalize(M2).d.down=dd at HDN
           cases dd with
           |true=>
            go_wp2_with (first|(go_at_call 16;refine HDN.mono ?_;rintro e W20 ⟨rfl,rfl⟩)|(go_at_call 17;refine HDA.mono ?_;rintro e W21 ⟨rfl,rfl⟩))
            go_roundw
            case rel=>(repeat first|exact Pk|(refine⟨Pk,?_⟩;(repeat(first|exact rfl|refine⟨rfl,?_⟩)))|apply Exists.intro)
            case measure=>simp[intOf];have:=cT.out;omega
           |false=>
            go_wp2_with (first|(go_at_call 16;refine HDN.mono ?_;rintro e W20 ⟨rfl,rfl⟩)|(go_at_call 17;refine HDA.mono ?_;rintro e W21 ⟨rfl,rfl⟩))
            go_roundw
            case rel=>(repeat first|exact Pk|(refine⟨Pk,?_⟩;(repeat(first|exact rfl|refine⟨rfl,?_⟩)))|apply Exists.intro)
            case measure=>simp[intOf];have:=cT.out;omega
          ·rw[htd]at HDN;have Pk:=aH (AtRel c hP (by decide) cfb (.slice A c.h.length m) a.db a.lb L.length w (aI a.ab) u7 (ah ((k:Int)+1)) wr) (⟨k+1,{a with D:=D10,V:=V10},_,cT,by simp,rfl,rfl,rfl,HI9,HT9⟩);go_wp2_with (go_at_call 16;refine HDN.mono ?_;rintro e W20 ⟨rfl,rfl⟩)
           go_roundw
           case rel=>(repeat first|exact Pk|(refine⟨Pk,?_⟩;(repeat(first|exact rfl|refine⟨rfl,?_⟩)))|apply Exists.intro)
           case measure=>simp[intOf];have:=cT.out;omega
    ·obtain rfl:k=L.length:=by omega
     go_wp2_with fail;go_ret;exact⟨rfl,PA.o⟩
  ·have HN:=ae (ara_new_no (db:=db) hP W4 (tY.keep jb));go_wp2_with (first|(refine pL (aj c (.slice A c.h.length m)) uo Tryz.underlying25 ?_)|(go_at_call 10;refine HN.mono ?_;rintro e W5 ⟨rfl,eD⟩));go_ret;exact⟨rfl,jb.trans eD⟩
end
end Go.Proofs.YtpcfhbeakecihaaGreat

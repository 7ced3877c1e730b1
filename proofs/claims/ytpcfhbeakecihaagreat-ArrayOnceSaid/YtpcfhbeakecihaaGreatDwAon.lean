/- texts Aon Aow -/
import Derived.Test.YtpcfhbeakecihaaGreatDwArk
import Derived.Test.YtpcfhbeakecihaaGreatM3
import Derived.Test.YtpcfhbeakecihaaGreatM2
import Derived.Test.YtpcfhbeakecihaaGreatM1
import Derived.Test.YtpcfhbeakecihaaGreatM4
import Derived.Test.YtpcfhbeakecihaaGreatM5
import Derived.Test.YtpcfhbeakecihaaGreatM36
set_option linter.all false
set_option maxHeartbeats 20000000
set_option maxRecDepth 100000
namespace Go.Proofs.YtpcfhbeakecihaaGreat
open Go.RowKit Go.ChangeShapes Go.WideShapes
section
variable {sh:Nat→Int}{size:Nat}{d:dH}{wr:Nat→Int}{t:List Int}
theorem stWrite_was {k:Nat}(h:0≤wr 4∧wr 4<sh 0)(ht:t.length=size)(hf:uy sh wr=true)(hl:lastOf (d.sec (slotI sh (wr 0) (wr 1)))=((wr 2).toNat,(wr 3).toNat,k)):stWrite sh size d wr t=(d,((k:Nat):Int),0):=by
 obtain⟨f0,f1,f2,f3,f4,f5,f6,f7⟩:=fitB_of hf;rw[stWrite_in h ht hf,hl];have e2:(((wr 2).toNat:Nat):Int)=wr 2:=by omega
 have e3:(((wr 3).toNat:Nat):Int)=wr 3:=by omega
 rw[if_neg (by show¬(wr 2<(((wr 2).toNat:Nat):Int)∨(wr 2=(((wr 2).toNat:Nat):Int)∧wr 3<(((wr 3).toNat:Nat):Int)));omega),if_pos (by show wr 2=(((wr 2).toNat:Nat):Int)∧wr 3=(((wr 3).toNat:Nat):Int);omega)]
theorem stWrite_again (hp:zh sh)(h0:d.down=false)(h1:d.b9= -1):
 ((stWrite sh size d wr t).2.2≠0∧(stWrite sh size d wr t).1=d)∨
 ((stWrite sh size d wr t).2.2=0∧stWrite sh size (stWrite sh size d wr t).1 wr t=((stWrite sh size d wr t).1,(stWrite sh size d wr t).2.1,0)):=by
 have h8:=(stWrite_free (sh:=sh) (size:=size) (wr:=wr) (t:=t) h0 h1).1;have ho:WrO sh size d wr t (stWrite sh size d wr t):=stWrite_out hp;have hself:stWrite sh size d wr t=stWrite sh size d wr t:=rfl;generalize ho':stWrite sh size d wr t=o at *
 cases ho with
 |down d' c=>exact absurd rfl h8
 |bad e h h0'=>exact .inl ⟨h0',rfl⟩
 |was k hf hl=>exact .inr ⟨rfl,ho'⟩
 |full d' hf hb hn hs ho hv ht=>
  obtain⟨f0,f1,f2,f3,f4,f5,f6,f7⟩:=fitB_of hf;exact .inr ⟨rfl,stWrite_was hb ht hf (by rw[hs,lastOf_put (by omega) (by omega) (by decide)])⟩
 |done d' hf hb ht v hv E8 ho=>
  obtain⟨f0,f1,f2,f3,f4,f5,f6,f7⟩:=fitB_of hf;exact .inr ⟨rfl,stWrite_was hb ht hf (by rw[ho.sl,lastOf_put (by omega) (by omega) (by decide)])⟩
end
section
variable {σ:Type}{sp:oz σ}{c:aN}{M:AMZq σ}{t:List Int}
theorem aWrite_again (hP:dJ c)(h0:M.d.down=false)(h1:M.d.b9= -1)(m:ec)(hne:aWriteT sp c (sr c) M m t≠[]):
 (∃T0 code g,aWriteT sp c (sr c) M m t=T0 ++ [aDone m code g]∧(g=true→code=0)∧aWriteT sp c (sr c) (aWriteM sp c (sr c) M m t) m t= [aDone m code false])∧aWriteM sp c (sr c) (aWriteM sp c (sr c) M m t) m t=aWriteM sp c (sr c) M m t:=by
 have h8:=(stWrite_free (sh:=sr c) (size:=(c.f 3).toNat) (wr:=fun i=>m.f (i+1)) (t:=t) h0 h1).1;have hag:=stWrite_again (sh:=sr c) (size:=(c.f 3).toNat) (wr:=fun i=>m.f (i+1)) (t:=t) (xK hP) h0 h1;have hd:∀M':AMZq σ,aWZq c (sr c) M' m t=stWrite (sr c) (c.f 3).toNat M'.d (fun i=>m.f (i+1)) t:=fun _=>rfl
 have ho:aWZq c (sr c) M m t=stWrite (sr c) (c.f 3).toNat M.d (fun i=>m.f (i+1)) t:=rfl;rw[←ho]at h8 hag;rcases hag with⟨hz,he⟩|⟨hz,he⟩
 ·-- nothing is done
  have hMZq:aWriteM sp c (sr c) M m t=M:=by
   unfold aWriteM;rw[if_neg h8,if_pos hz,he]
  have hT:aWriteT sp c (sr c) M m t= [aDone m (aWZq c (sr c) M m t).2.2 false]:=by
   unfold aWriteT at hne ⊢
   by_cases h:(aWZq c (sr c) M m t).2.2=8∨(aWZq c (sr c) M m t).2.2=12
   ·rw[if_pos h]at hne;exact absurd rfl hne
   ·rw[if_neg h,if_pos hz]
  rw[hMZq];exact⟨⟨[],_,false,hT,(fun h=>by cases h),hT⟩,hMZq⟩
 ·have H9:¬((aWZq c (sr c) M m t).2.2=8∨(aWZq c (sr c) M m t).2.2=12):=by omega
  have hMd:(aWriteM sp c (sr c) M m t).d=(aWZq c (sr c) M m t).1:=by
   unfold aWriteM;rw[if_neg h8,if_neg (fun e=>e hz)]
   split
   ·exact aKeep_d.1
   ·rfl
  have h2:aWZq c (sr c) (aWriteM sp c (sr c) M m t) m t=((aWZq c (sr c) M m t).1,(aWZq c (sr c) M m t).2.1,0):=by
   rw[hd,hMd];exact he
  have hM2:aWriteM sp c (sr c) (aWriteM sp c (sr c) M m t) m t=aWriteM sp c (sr c) M m t:=by
   have e:∀M':AMZq σ,aWriteM sp c (sr c) M' m t=if(aWZq c (sr c) M' m t).2.2=8 then {M' with d:=(aWZq c (sr c) M' m t).1,down:=true} else if(aWZq c (sr c) M' m t).2.2≠0 then {M' with d:=(aWZq c (sr c) M' m t).1} else if aVer c (aWZq c (sr c) M' m t).1 (m.f 5)≠aVer c M'.d (m.f 5)then aKeepM sp c {M' with d:=(aWZq c (sr c) M' m t).1} (m.f 5) t (m.f 6)else {M' with d:=(aWZq c (sr c) M' m t).1}:=fun _=>rfl
   rw[e (aWriteM sp c (sr c) M m t),h2,if_neg (show¬(0:Int)=8 by decide),if_neg (show¬(0:Int)≠0 by decide),hMd,if_neg (fun h=>h rfl),←hMd]
  have hT2:aWriteT sp c (sr c) (aWriteM sp c (sr c) M m t) m t= [aDone m (aWZq c (sr c) M m t).2.1 false]:=by
   have e:∀M':AMZq σ,aWriteT sp c (sr c) M' m t=if(aWZq c (sr c) M' m t).2.2=8∨(aWZq c (sr c) M' m t).2.2=12 then[]else if(aWZq c (sr c) M' m t).2.2≠0 then[aDone m (aWZq c (sr c) M' m t).2.2 false]else if aVer c (aWZq c (sr c) M' m t).1 (m.f 5)≠aVer c M'.d (m.f 5)then aKeepT sp c {M' with d:=(aWZq c (sr c) M' m t).1} (m.f 5) t (m.f 6) ++ [aDone m (aWZq c (sr c) M' m t).2.1 true]else[aDone m (aWZq c (sr c) M' m t).2.1 false]:=fun _=>rfl
   rw[e (aWriteM sp c (sr c) M m t),h2,if_neg (show¬((0:Int)=8∨(0:Int)=12) by decide),if_neg (show¬(0:Int)≠0 by decide),hMd,if_neg (fun h=>h rfl)]
  refine⟨?_,hM2⟩
  by_cases hv:aVer c (aWZq c (sr c) M m t).1 (m.f 5)≠aVer c M.d (m.f 5)
  ·refine⟨_,(aWZq c (sr c) M m t).2.1,true,by unfold aWriteT;rw[if_neg H9,if_neg (fun e=>e hz),if_pos hv],fun _=>?_,hT2⟩;have hb:WrO (sr c) (c.f 3).toNat M.d (fun i=>m.f (i+1)) t (aWZq c (sr c) M m t):=stWrite_out (xK hP);rcases hb.blk (xK hP) (by have:=hP.p3;omega) h8 with⟨_,_,_,_,h,_⟩|hr
   ·exact h
   ·exfalso
    apply hv;unfold aVer
    split
    ·rename_i hq;rw[hr (m.f 5).toNat (by show _<c.f 2;omega)]
    ·rfl
  ·exact⟨[],(aWZq c (sr c) M m t).2.1,false,by unfold aWriteT;rw[if_neg H9,if_neg (fun e=>e hz),if_neg hv];rfl,(fun h=>by cases h),hT2⟩
theorem aHear_free (h:M.d.down=false∧M.d.b9= -1)(sh:Nat→Int)(m:ec):(aHearM sp c sh M m t).d.down=false∧(aHearM sp c sh M m t).d.b9= -1:=by
 unfold aHearM
 split
 ·exact h
 ·split
  ·unfold aReadM
   split
   ·split
    ·rw[aKeep_d.1];exact h
    ·exact h
   ·split
    ·rw[aKeep_d.1];exact h
    ·exact h
  ·split
   ·have h8:=stWrite_free (sh:=sh) (size:=(c.f 3).toNat) (wr:=fun i=>m.f (i+1)) (t:=t) h.1 h.2;have h9:(aWZq c sh M m t).1.down=false∧(aWZq c sh M m t).1.b9= -1:=⟨h8.2.2,h8.2.1⟩;unfold aWriteM
    split
    ·exact h9
    ·split
     ·exact h9
     ·split
      ·rw[aKeep_d.1];exact h9
      ·exact h9
   ·split
    ·split
     ·rw[aPut_d.1];exact h
     ·exact h
    ·split
     ·rw[aDrop_d.1];exact h
     ·exact h
theorem aWriteM_down {m:ec}(h8:(aWZq c (sr c) M m t).2.2≠8):(aWriteM sp c (sr c) M m t).down=M.down:=by
 unfold aWriteM;rw[if_neg h8]
 split
 ·rfl
 ·split
  ·exact aKeep_d.2
  ·rfl
theorem aHear_again (hP:dJ c)(h0:M.d.down=false)(h1:M.d.b9= -1){m:ec}(hk:m.f 0=9)(hne:aHearT sp c (sr c) M m t≠[]):
 (∃T0 code g,aHearT sp c (sr c) M m t=T0 ++ [aDone m code g]∧(g=true→code=0)∧aHearT sp c (sr c) (aHearM sp c (sr c) M m t) m t= [aDone m code false])∧aHearM sp c (sr c) (aHearM sp c (sr c) M m t) m t=aHearM sp c (sr c) M m t:=by
 have e8:¬m.f 0=8:=by omega
 by_cases hq:M.down=true∨nW m t.length=false
 ·exfalso;apply hne;unfold aHearT;rw[if_pos hq]
 ·have hMZq:aHearM sp c (sr c) M m t=aWriteM sp c (sr c) M m t:=by unfold aHearM;rw[if_neg hq,if_neg e8,if_pos hk]
  have hT:aHearT sp c (sr c) M m t=aWriteT sp c (sr c) M m t:=by unfold aHearT;rw[if_neg hq,if_neg e8,if_pos hk]
  have h8:=(stWrite_free (sh:=sr c) (size:=(c.f 3).toNat) (wr:=fun i=>m.f (i+1)) (t:=t) h0 h1).1;have GQ:¬((aWriteM sp c (sr c) M m t).down=true∨nW m t.length=false):=by rw[aWriteM_down h8];exact hq
  have hM2:aHearM sp c (sr c) (aWriteM sp c (sr c) M m t) m t=aWriteM sp c (sr c) (aWriteM sp c (sr c) M m t) m t:=by unfold aHearM;rw[if_neg GQ,if_neg e8,if_pos hk]
  have hT2:aHearT sp c (sr c) (aWriteM sp c (sr c) M m t) m t=aWriteT sp c (sr c) (aWriteM sp c (sr c) M m t) m t:=by unfold aHearT;rw[if_neg GQ,if_neg e8,if_pos hk]
  rw[hT]at hne ⊢;rw[hMZq,hM2,hT2];exact aWrite_again hP h0 h1 m hne
end
end Go.Proofs.YtpcfhbeakecihaaGreat

namespace Go.Proofs.YtpcfhbeakecihaaGreat
open Go.RowKit Go.ChangeShapes Go.WideShapes
structure AoI (c:aN)(hP:dJ c)(hk:2<3)(cfb:Nat)(cv:Value)(ab mxb:Nat)(mc:Array Value)(k:Nat)(w:World)(a:ArrA (jW c 2 hP hk))(M:AMZq (jW c 2 hP hk).σ)(wr:World):Prop where
 i:AtI cfb cv k w a M wr
 ab:a.ab=ab
 fr:M.d.down=false∧M.d.b9= -1
 mb:Box wr mxb 37 mc
 hv:0<c.h.length→∀k,aJ a.hv k→k≠mxb
def AoRel (c:aN)(hP:dJ c)(hk:2<3)(cfb:Nat)(cv:Value)(ab mxb:Nat)(mc:Array Value)(n:Nat)(w:World)(iv:Value)(wr:World):Prop:=
 ∃(k:Nat) (a:ArrA (jW c 2 hP hk)) (M:AMZq (jW c 2 hP hk).σ),k≤n∧iv=ah k∧AoI c hP hk cfb cv ab mxb mc k w a M wr
theorem AtI.boxM {c:aN}{hP:dJ c}{hk:2<3}{cfb k:Nat}{cv:Value}{w wr w':World}{a:ArrA (jW c 2 hP hk)}{M:AMZq (jW c 2 hP hk).σ}(h:AtI cfb cv k w a M wr){g:Nat}{cs:Array Value}(hb:Box wr g 37 cs)(hg:w.heap.size≤g)(hh:0<c.h.length→∀k,aJ a.hv k→k≠g)(ho:af (aM g) wr w'):AtI cfb cv k w a M w':=
 ⟨h.b.off ho (fun k _ e=>by rw[show k=g from e];exact⟨hg,.inr fun cs' hx=>absurd (hx.same hb).1 (by decide)⟩) (fun k hk e=>by have e:k=g:=e;subst e;exact absurd (h.b.M8 hk hb) (by decide)) (fun e=>by have e:a.sb=g:=e;subst e;exact absurd (hb.same h.b.sto.az).1 (by decide)) (fun h0 k hk e=>hh h0 k hk e),h.sk,h.rd,ho.az h.cf (fun e=>by have e:cfb=g:=e;subst e;exact absurd (hb.same h.cf).1 (by decide)),h.o.aE ho fun k hk=>.inr (by rw[show k=g from hk];exact hg)⟩
def m9 (m:ec):ec:=⟨fun i=>if i=0 then 9 else m.f i,m.g⟩
section
theorem aonce_walk (c:aN)(L:List lG)(A B:Option Addr)(m n:Nat)(mm:ec)(md:List Int)(E:Option Addr)(q:Nat)(w:World)(bI:aL w A c.h.length m c.h)(hL:dN w.heap.size w B L.length n L)(hLB:∀i,i<L.length→sm (L.getD i default).d)(hd:pZ ⟨w.heap.size,fun _=>False⟩ w (.slice E md.length q) md)(hdb:sm md):
 Calls Tryz.prog 5 #[.agg (aj c (.slice A c.h.length m)),.slice B L.length n,.agg (bc mm (.slice E md.length q))] w fun e w'=>e= .returned (.bool true)∧af aA w w':=by
 have tY:=ae bI;have HL:=ae hL;have um:=ae hLB;have HDT:=ae hd;have HDB:=ae hdb;have HMX:=ae (Nat.le_trans hL.cap hL.max);have HMH:=ae (Nat.le_trans bI.cap bI.max);have HB:=ae (((af.ak aA (w.alloc (.cells (aj c (.slice A c.h.length m)) 25))).alloc (.cells (bc mm (.slice E md.length q)) 37)).az (Box.fresh w 25 (aj c (.slice A c.h.length m))) id);have xh:=aH (Box ((w.alloc (.cells (aj c (.slice A c.h.length m)) 25)).alloc (.cells (bc mm (.slice E md.length q)) 37)) (w.heap.size+1) 37 (bc mm (.slice E md.length q))) (by
  have h:=Box.fresh (w.alloc (.cells (aj c (.slice A c.h.length m)) 25)) 37 (bc mm (.slice E md.length q));rw[show(w.alloc (.cells (aj c (.slice A c.h.length m)) 25)).heap.size=w.heap.size+1 by simp]at h;exact h)
 have HO:=ae (((af.ak aA w).alloc (.cells (aj c (.slice A c.h.length m)) 25)).alloc (.cells (bc mm (.slice E md.length q)) 37));clear bI hL hLB hd hdb
 go_enter Tryz.func5,Tryz.ntmps5
 go_upto_region 1 with fail;change Code.wp _ _ _ _ ((w.alloc (.cells (aj c (.slice A c.h.length m)) 25)).alloc (.cells (bc mm (.slice E md.length q)) 37));generalize(w.alloc (.cells (aj c (.slice A c.h.length m)) 25)).alloc (.cells (bc mm (.slice E md.length q)) 37)=W1 at *;obtain⟨mxb,Kn⟩:∃mxb,mxb=w.heap.size+1:=⟨_,rfl⟩;rw[←Kn]at xh ⊢;obtain⟨cfb,hcf⟩:∃cfb,cfb=w.heap.size:=⟨_,rfl⟩;rw[←hcf]at HB ⊢;have HXL:=ae (show w.heap.size≤mxb by omega);clear hcf Kn;go_upto_region 3 with(go_at_call 7;refine(zK W1).mono ?_;rintro e W2 ⟨rfl,bd⟩);have eC:=ae (bd.az HB id);have HMB2:=ae (bd.az xh id);have bR:=ae (HO.trans bd);clear bd HB HO xh;have hlg:=BF (cf:=c) (A:=A) (m:=m) (HL.keep bR) HMH
 cases Fj:rE c.h.length L with
 |true=>
  rw[Fj]at hlg;have HLG:=ae hlg;clear Fj hlg;go_wp2_with (first|(refine pL (aj c (.slice A c.h.length m)) eC Tryz.underlying25 ?_)|(go_at_call 8;refine HLG.mono ?_;rintro e W3 ⟨rfl,bQ⟩));go_ret;exact⟨rfl,bR.trans bQ⟩
 |false=>
  obtain⟨_,NW,wG⟩:=EI Fj;rw[Fj]at hlg;have HLG:=ae hlg;have zm:=ae NW;have HL3:=ae wG;clear Fj NW wG hlg;have MZ:∀W,af aA W2 W→ba W mxb 10 (.slice E md.length q):=fun W ho=>(ho.az HMB2 id).ag rfl
  have Z10:=ae MZ;clear MZ
  by_cases hml:100<md.length
  ·go_wp2_with (first|(refine pL (aj c (.slice A c.h.length m)) eC Tryz.underlying25 ?_)|(go_at_call 8;refine HLG.mono ?_;rintro e W3 ⟨rfl,bQ⟩;have MZ:=Z10.out _ bQ));go_ret;exact⟨rfl,bR.trans bQ⟩
  ·go_upto_region 5 with(first|(refine pL (aj c (.slice A c.h.length m)) eC Tryz.underlying25 ?_)|(go_at_call 8;refine HLG.mono ?_;rintro e W3 ⟨rfl,bQ⟩;have MZ:=Z10.out _ bQ));have kj:=ae (bQ.az eC id);have HMB3:=ae (bQ.az HMB2 id);have b7:=ae (bR.trans bQ);have HML:=ae hml;clear bQ eC bR HLG HMB2 MZ Z10 hml
   by_cases hP:dJ c
   ·skip
    refine kb (fun w':World=>Box w' cfb 25 (aj c (.slice A c.h.length m))) 7 ?_ ?_
    ·first|exact kj.drew|exact uo|exact HQ5.cf
    intro aX;refine bj (i:=0) (v:=.agg (aj c (.slice A c.h.length m))) (by kernel_rfl) rfl (by kernel_rfl) (fun _ _ _ h=>h) (yieldsIf_load_mid (by rfl) 25 _ rfl cfb 0 (by rfl) (aj c (.slice A c.h.length m)).toList _ (fun w' hw j v hj=>by rw[Nat.zero_add];exact Box.ag hw (by rw[←Array.getElem?_toList];exact hj)) Tryz.underlying25 rfl (by kernel_rfl)) (by assumption) ?_;refine sd ?_;refine lh 1 fun KcZq hK=>?_
    go_simp;refine(xN W3.drew).mono ?_;rintro e W4 ⟨db,lb,rfl,hd4,hlb4,hdb4,gB⟩;have PF:=ae hd4;have HDL4:=aH (W3.heap.size≤lb∧W3.heap.size≤db) (⟨hlb4,hdb4⟩);have uo:=ae (gB.az kj.drew id);have jb:=ae (b7.drew.trans gB);have HSZ3:=aH (w.heap.size≤W3.heap.size) (b7.size);have HMB4:=ae (gB.az HMB3.drew id);have HML4:=aH (mxb<W4.heap.size) (HMB4.lt);clear hd4 hlb4 hdb4 gB;refine lj hK ?_ fun aX=>?_
    ·first|exact kj.drew|exact uo|exact HQ5.cf
    clear hK;refine lh 2 fun KcZq hK=>?_
    go_simp;have HN:=ae (ara_new (Z:=⟨w.heap.size,fun _=>False⟩) (EL hP (by decide:2<3)) (Gq hP (by decide:2<3)) hP W4 (tY.keep jb) PF rfl rfl (fun i x hx=>by cases hx) (fun _ _ _ _=>id) (by have h1:=HDL4.out;have h2:=HSZ3.out;have h3:=jb.size;exact⟨by show w.heap.size≤db;omega,by show w.heap.size≤lb;omega,h3⟩) (fun k h=>h.elim));refine HN.mono ?_;rintro e W5 ⟨a0,he5,had,mK,h5,o5,yY⟩;obtain⟨ab,CZ⟩:∃ab,a0.ab=ab:=⟨_,rfl⟩;rw[CZ]at he5;subst he5;have HAB:=ae CZ;have HA0:=ae (EM (k:=2) (hP:=hP) (hk:=(by decide:2<3)));have HQ5:=aH (AtI (hP:=hP) (hk:=(by decide:2<3)) cfb (.slice A c.h.length m) 0 w a0 _ W5) (⟨h5,by show(jW c 2 hP (by decide)).sp.sk (jW c 2 hP (by decide)).s0≤_;rw[HA0.out];exact Nat.zero_le _,Nat.le_refl _,o5.az uo (fun e=>by have h1:=uo.out;rcases e with e|e;(rw[e]at h1;exact absurd (h1.same PF.az).1 (by decide));(rw[e]at h1;exact absurd (h1.same PF.row).1 (by decide))),jb.aE o5 fun k hk=>.inr (by have h1:=HDL4.out;have h2:=HSZ3.out;rcases hk with e|e<;>omega)⟩);have B3:=ae yY;have HMB5:=ae (o5.az HMB4 (fun e=>by have h1:=HMB4.out;rcases e with e|e;(rw[e]at h1;exact absurd (h1.same PF.az).1 (by decide));(rw[e]at h1;exact absurd (h1.same PF.row).1 (by decide))));clear had mK h5 o5 CZ yY HN;refine lj hK ?_ fun aX=>?_
    ·first|exact kj.drew|exact uo|exact HQ5.cf
    clear hK;refine eZ [3,4,5,6] ?_;refine jz ?_;have HT5:=aH (((⟨(jW c 2 hP (by decide)).s0,fun _=>none,stOpen (sr c) (c.f 3).toNat ⟨fun _=>[],-1,false⟩,false,0⟩:AMZq (jW c 2 hP (by decide)).σ)).d.down=false∧((⟨(jW c 2 hP (by decide)).s0,fun _=>none,stOpen (sr c) (c.f 3).toNat ⟨fun _=>[],-1,false⟩,false,0⟩:AMZq (jW c 2 hP (by decide)).σ)).d.b9= -1) (⟨(stOpen_free rfl rfl).2,(stOpen_free rfl rfl).1⟩);go_wp2_with fail
    go_loopw [42] (fun iv wr=>AoRel c hP (by decide) cfb (.slice A c.h.length m) ab mxb (bc mm (.slice E md.length q)) L.length w iv wr) (fun iv _=>L.length - (intOf iv).toNat)
    case atStart=>exact⟨0,a0,_,Nat.zero_le _,rfl,HQ5,HAB,HT5,HMB5,fun h0 k hk=>by have h1:=B3.out h0 k hk;have h2:=HML4.out;omega⟩
    case round=>
     clear HQ5 HT5 HAB jb PF HDL4 HSZ3 HA0 HMB5 B3 HML4 HMB4;obtain⟨k,a,M,hk9,rfl,hI,CZ,CX,ud,hhv⟩:=hrel;subst CZ;have PA:=ae hI;have F1:=ae CX;have xh:=ae ud;have HHV:=ae hhv;clear hI CX ud hhv
     by_cases aO:k<L.length
     ·skip
      obtain⟨g,ogZq,dv,rfl,hg,rm,eE,bp⟩:=(HL.keep PA.o).at_ k aO;have mO:(k:Int)<L.length:=by omega
      have hk1000:(k:Int)<1000:=by have:=zm.out;omega
      have cT:=ae aO;have HK1:=ae (show k<100 by have:=zm.out;omega);have Mo:=ae (um k aO);have F6:=ae rm;have HDD:=aH (pZ ⟨w.heap.size,fun _=>False⟩ wr dv (L.getD k default).d) (⟨eE,fun h0 k hk=>.inl (bp k h0 hk)⟩);clear rm aO hk9 eE bp;generalize L.getD k default=x at *;obtain⟨dA,dc,rfl⟩:=HDD.shape;have HRC:=aH (∀j v,(DT x (.slice dA x.d.length dc)).toList[j]? =some v→ba wr g (ogZq+k*12+j) v) (fun j v hj=>F6 j v (by rw[←Array.getElem?_toList];exact hj));go_upto_region 11 with(first|(refine wpList_load_mid rfl 39 _ rfl g (ogZq+k*12) rfl (DT x (.slice dA x.d.length dc)).toList _ HRC Tryz.underlying39 rfl (by kernel_rfl) ?_)|(refine pT (DT x (.slice dA x.d.length dc)) (Box.fresh wr 39 zAcY) (actY_one _ _ _ _) ?_));have nQ:af aA wr ((wr.alloc (.cells zAcY 39)).setRow wr.heap.size (DT x (.slice dA x.d.length dc))):=((af.ak aA wr).alloc _).aK (.inr (Nat.le_refl _)) _;have MD:=ae ((Box.fresh wr 39 zAcY).aK (DT x (.slice dA x.d.length dc)));have HI:=ae (PA.keep nQ);have HMB8:=ae (nQ.az xh id);have HDA:=ae (HDD.keep nQ);change Code.wp _ _ _ _ ((wr.alloc (.cells zAcY 39)).setRow wr.heap.size (DT x (.slice dA x.d.length dc)));clear nQ PA HDD F6 HRC;generalize(wr.alloc (.cells zAcY 39)).setRow wr.heap.size (DT x (.slice dA x.d.length dc))=W8 at *;generalize wr.heap.size=acb at *
      try simp only[Act.put]
      have HMC:=aH (∀j v,(bc x.m (.slice dA x.d.length dc)).toList[j]? =some v→ba W8 acb (1+j) v) (fun j v hj=>by
       have hj11:j<11:=(List.getElem?_eq_some_iff.1 hj).1;refine MD.ag ?_;rw[Array.getElem?_toList]at hj;rcases(show j=0∨j=1∨j=2∨j=3∨j=4∨j=5∨j=6∨j=7∨j=8∨j=9∨j=10 by omega)with rfl|rfl|rfl|rfl|rfl|rfl|rfl|rfl|rfl|rfl|rfl<;>exact hj)
      have HHR:=ae (ara_hear (m:=x.m) HI.b HDA Mo (by have h1:=HI.sk;have h2:=HK1.out;unfold jH;omega) (by have h1:=HI.rd;have h2:=HK1.out;omega));have hag:=aHear_age (K:=jW c 2 hP (by decide)) (c:=c) (M:=M) (t:=x.d) a.i (sr c) x.m;unfold TelP at HHR;have CX:=aHear_free (sp:=(jW c 2 hP (by decide)).sp) (c:=c) (t:=x.d) F1 (sr c) x.m;generalize aHearM (jW c 2 hP (by decide)).sp c (sr c) M x.m x.d=M2 at HHR hag CX;generalize aHearT (jW c 2 hP (by decide)).sp c (sr c) M x.m x.d=TL at HHR;have HFR2:=ae CX;have IL:=ae hag;clear hag CX;go_upto_region 12 with(first|(refine wpList_load_mid rfl 37 _ rfl acb 1 rfl (bc x.m (.slice dA x.d.length dc)).toList _ HMC Tryz.underlying37 rfl (by kernel_rfl) ?_)|(go_at_call 14;refine HHR.mono ?_;rintro e Lc ⟨u,rfl,hm10,D10,V10,C5,o10⟩;have HI9:=ae (HI.p6 C5 o10 IL.1 IL.2);have HMB9:=ae (o10.az HMB8 fun e=>absurd (HI.b.M8 e HMB8) (by decide));clear hm10 C5 o10));clear HHR HMC;have Pk:=aH (AoRel c hP (by decide) cfb (.slice A c.h.length m) a.ab mxb (bc mm (.slice E md.length q)) L.length w (ah ((k:Int)+1)) Lc) (⟨k+1,{a with D:=D10,V:=V10},_,cT,by simp,HI9,rfl,HFR2,HMB9,HHV⟩);go_wp2_with fail
      go_roundw
      case rel=>(repeat first|exact Pk|(refine⟨Pk,?_⟩;(repeat(first|exact rfl|refine⟨rfl,?_⟩)))|apply Exists.intro)
      case measure=>simp[intOf];have:=cT.out;omega
     ·obtain rfl:k=L.length:=by omega
      clear aO hk9;have HK1:=ae (show L.length≤100 by have:=zm.out;omega);have z0:aF wr mxb 0 (mm.f 0):=xh.ag rfl;have g0:wr.frozen? ⟨mxb,0,none⟩=false:=xh.free _;go_upto_region 14 with fail;have j1:af (aM mxb) wr (wr.setCell ⟨mxb,0,none⟩ (ah 9)):=(af.ak (aM mxb) wr).setCell (p:=⟨mxb,0,none⟩) (.inl (show aM mxb mxb from rfl)) _;have HI:=ae (PA.boxM xh HXL HHV j1);have HDA:=ae ((HDT.keep PA.o).ao j1 fun k _ e=>by rw[show k=mxb from e];exact⟨HXL,.inr fun cs' hx=>absurd (hx.same xh).1 (by decide)⟩);have HMB8:=aH (Box (wr.setCell ⟨mxb,0,none⟩ (ah 9)) mxb 37 (bc (m9 mm) (.slice E md.length q))) (xh.store 0 _);have hk9:(m9 mm).f 0=9:=rfl;have NZ:(m9 mm).f 5=mm.f 5:=rfl;change Code.wp _ _ _ _ (wr.setCell ⟨mxb,0,none⟩ (ah 9));clear j1 z0 g0 PA xh;generalize wr.setCell ⟨mxb,0,none⟩ (ah 9)=W8 at *;generalize m9 mm=mk at *;have HKB:=ae hk9;have HHR:=ae (ara_hear (m:=mk) HI.b HDA HDB (by have h1:=HI.sk;have h2:=HK1.out;unfold jH;omega) (by have h1:=HI.rd;have h2:=HK1.out;omega));have hag:=aHear_age (K:=(jW c 2 hP (by decide))) (c:=c) (M:=M) (t:=md) a.i (sr c) mk;have Oi:=aHear_again (sp:=(jW c 2 hP (by decide)).sp) (t:=md) hP F1.1 F1.2 hk9;unfold TelP at HHR;generalize aHearM (jW c 2 hP (by decide)).sp c (sr c) M mk md=M2 at HHR hag Oi;generalize aHearT (jW c 2 hP (by decide)).sp c (sr c) M mk md=TL at HHR Oi;have IL:=ae hag;have HAN:=ae Oi;clear hag Oi hk9 NZ;go_upto_region 15 with(first|(refine pL (bc mk (.slice E md.length q)) HMB8 Tryz.underlying37 ?_)|(go_at_call 14;refine HHR.mono ?_;rintro e Lc ⟨u,rfl,hm10,D10,V10,C5,o10⟩;obtain⟨AuZq,cuZq,euZq,hcu1,hcu2⟩:=hm10.shape;subst euZq;have HM10:=ae hm10;have HI9:=ae (HI.p6 C5 o10 IL.1 IL.2);have HCU:=aH (TL.length≤maxLen) (Nat.le_trans hcu1 hcu2);have HMB9:=ae (o10.az HMB8 fun e=>absurd (HI.b.M8 e HMB8) (by decide));have HDA9:=ae (HDA.ao o10 HI.b.wr);clear hm10 C5 o10 hcu1 hcu2));clear HHR HMB8 HDA
      by_cases Aa:TL= []
      ·subst Aa;go_wp2_with fail;go_ret;exact⟨rfl,HI9.o⟩
      ·have hag:=HAN.out Aa;obtain⟨⟨T0,code,grZq,rfl,hgc,hT2⟩,hM2⟩:=hag;have HGC:=ae hgc;have Pb:=ae hT2;have pS:=ae hM2;have FB:=HM10.at_ (i:=T0.length) (by simp);rw[show(T0 ++ [aDone mk code grZq]).getD T0.length pm0=aDone mk code grZq by simp]at FB;obtain⟨g1,c1,A1Zq,m1,eg1,zf,_⟩:=FB;injection eg1 with eA _ eCZq;subst eA eCZq;have hlen:(T0 ++ [aDone mk code grZq]).length=T0.length+1:=by simp
       have hcu:=HCU.out;rw[hlen]at hcu ⊢;unfold maxLen at hcu;have hne:¬((T0.length:Int)+1=0):=by omega
       have Ch:=aH (∀j v,(bc (aDone mk code grZq).m (.slice A1Zq (aDone mk code grZq).d.length m1)).toList[j]? =some v→ba Lc g1 (T0.length*11+j) v) (fun j v hj=>zf j v (by rw[←Array.getElem?_toList];exact hj));clear hgc hT2 hM2 zf Aa;go_upto_region 18 with(first|(refine wpList_load_mid rfl 37 _ rfl g1 (T0.length*11) rfl (bc (aDone mk code grZq).m (.slice A1Zq (aDone mk code grZq).d.length m1)).toList _ Ch Tryz.underlying37 rfl (by kernel_rfl) ?_)|(refine pT (bc (aDone mk code grZq).m (.slice A1Zq (aDone mk code grZq).d.length m1)) (Box.fresh Lc 37 zMsR) (by simp[bc,Value.oneCell']) ?_));have ho11:af aA Lc ((Lc.alloc (.cells zMsR 37)).setRow Lc.heap.size (bc (aDone mk code grZq).m (.slice A1Zq (aDone mk code grZq).d.length m1))):=((af.ak aA Lc).alloc _).aK (.inr (Nat.le_refl _)) _;have HDN:=ae ((Box.fresh Lc 37 zMsR).aK (bc (aDone mk code grZq).m (.slice A1Zq (aDone mk code grZq).d.length m1)));have HI11:=ae (HI9.keep ho11);have HMB11:=ae (ho11.az HMB9 id);have HDA11:=ae (HDA9.keep ho11);change Code.wp _ _ _ _ ((Lc.alloc (.cells zMsR 37)).setRow Lc.heap.size (bc (aDone mk code grZq).m (.slice A1Zq (aDone mk code grZq).d.length m1)));clear ho11 Ch HM10 HI9 HMB9 HDA9;generalize(Lc.alloc (.cells zMsR 37)).setRow Lc.heap.size (bc (aDone mk code grZq).m (.slice A1Zq (aDone mk code grZq).d.length m1))=Lb at *;generalize Lc.heap.size=dnb at *
       try simp only[Act.put]
       have wQ:=ae (ara_blocks HI11.b);go_upto_region 19 with(go_at_call 19;refine wQ.mono ?_;rintro e K9 ⟨vb,rfl,hr13,ho13⟩;obtain⟨AbZq,cb,eb,hcb1,xv⟩:=hr13.shape;subst eb;have HR13:=ae hr13;have HMB13:=ae (Nat.le_trans hcb1 xv);have HO13:=ae ho13;clear hr13 ho13 hcb1 xv);have HI13:=ae (HI11.keep HO13);have z5:aF K9 mxb 5 (mk.f 5):=(HO13.az HMB11 id).ag rfl;have za:=ara_stored HI13.b (mk.f 5);generalize(if 0≤mk.f 5∧mk.f 5<c.f 2 then(0:Int)else 9)=fv at za;generalize(if 0≤mk.f 5∧mk.f 5<c.f 2 then(aSto c M2 (mk.f 5)).2 else[])=tvZq at za;have Io:=ae za;clear za wQ;go_upto_region 20 with(go_at_call 13;refine Io.mono ?_;rintro e QZ ⟨vs,rfl,hr14,ho14,_⟩;obtain⟨As,cs,es,_,_⟩:=hr14.shape;subst es;have DY:=ae (HO13.trans ho14);have HO14b:=ae ho14;clear hr14 ho14);have HI14:=ae (HI11.keep DY);have HMB14:=ae (DY.az HMB11 id);have HDN14:=ae (DY.az HDN id);have HR14:=ae (HR13.ao HO14b fun _ _=>id);have HHR2:=ae (ara_hear (m:=mk) HI14.b (HDA11.keep DY) HDB (by have h1:=HI14.sk;have h2:=HK1.out;unfold jH;omega) (by have h1:=HI14.rd;have h2:=HK1.out;omega));have hag:=aHear_age (K:=(jW c 2 hP (by decide))) (c:=c) (M:=M2) (t:=md) a.i (sr c) mk;unfold TelP at HHR2;rw[pS.out,Pb.out]at HHR2;rw[pS.out]at hag;have HAG2:=ae hag;have HLW:=ae (fun k hk=>HI11.b.ltW (k:=k) hk);clear hag z5 Io HI13 HR13 HDN HMB11 HI11;go_upto_region 21 with(first|(refine pL (bc mk (.slice E md.length q)) HMB14 Tryz.underlying37 ?_)|(go_at_call 14;refine HHR2.mono ?_;rintro e W15 ⟨u,rfl,hm15,D15,V15,h15,o15⟩;have HM15:=ae hm15;have HI15:=ae (HI14.p6 h15 o15 HAG2.1 HAG2.2);have HO15:=ae o15;clear hm15 h15 o15));have HMB15:=ae (HO15.az HMB14 fun e=>absurd (HI14.b.M8 e HMB14) (by decide));have HDN15:=ae (HO15.az HDN14 fun e=>absurd (HI14.b.M8 e HDN14) (by decide));have HR15:=ae (HR14.ao HO15 fun k hk e=>by have h1:=(HR14.lt k hk).1;have h2:=HLW.out k e;omega);have FB:=HM15.at_ (i:=0) (by simp);obtain⟨g2,c2,A2,m2,rfl,uf,_⟩:=FB;have HG8:=aH (aF W15 g2 8 code) (by have h:=uf 8 (ah code) rfl;rw[Nat.zero_mul,Nat.zero_add]at h;exact h);have HG9:=aH (ba W15 g2 9 (.bool false)) (by have h:=uf 9 (.bool false) rfl;rw[Nat.zero_mul,Nat.zero_add]at h;exact h);clear uf HHR2;rw[show([aDone mk code false]:List PM).length=1 from rfl];have z5:aF W15 mxb 5 (mk.f 5):=HMB15.ag rfl;have za:=ara_stored HI15.b (mk.f 5);generalize(if 0≤mk.f 5∧mk.f 5<c.f 2 then(0:Int)else 9)=fv2 at za;generalize(if 0≤mk.f 5∧mk.f 5<c.f 2 then(aSto c M2 (mk.f 5)).2 else[])=tv2 at za;have Io:=ae za;clear za;go_upto_region 22 with(go_at_call 13;refine Io.mono ?_;rintro e W16 ⟨vs,rfl,hr16,ho16,_⟩;obtain⟨As2,cs2,es,_,_⟩:=hr16.shape;subst es;have HO16:=ae ho16;clear hr16 ho16);have HI16:=ae (HI15.keep HO16);have HR16:=ae (HR15.ao HO16 fun _ _=>id);have HG8:=ae (HO16.cell HG8 id);have HG9:=ae (HO16.cell HG9 id);have HDN16:=ae (HO16.az HDN15 id);have Mg:=aH (aF W16 dnb 8 code) (HDN16.ag rfl);have HN9:=aH (ba W16 dnb 9 (.bool grZq)) (HDN16.ag rfl)
       clear z5 Io HI15 HR15 HDN15 HMB15;refine kb (fun w':World=>ba w' g2 9 (.bool false)∧aF w' g2 8 code∧aF w' dnb 8 code) 24 ?_ ?_
       ·first|assumption|exact⟨HG9,HG8,Mg⟩|exact hS20|exact hS21
       intro aX;refine eZ [0,1,2,3,4,5,6,7,8,9,10,11,12,13,14,15,16,17,18,19,21] ?_;refine lh 20 fun KcZq hK=>?_
       go_simp;refine(ara_blocks (HI16.b.keep ((af.ak aA W16).drew))).mono ?_;rintro e W20 ⟨vb,rfl,hr20,ho20⟩;obtain⟨AcZq,ccZq,ecZq,hcc1,hcc2⟩:=hr20.shape;subst ecZq;have HR20:=ae hr20;have HMC2:=ae (Nat.le_trans hcc1 hcc2);have HO20:=ae (((af.ak aA W16).drew).trans ho20);have hS20:=And.intro (ho20.cell aX.1 id) (And.intro (ho20.cell aX.2.1 id) (ho20.cell aX.2.2 id));clear hr20 ho20 hcc1 hcc2;refine lj hK ?_ fun aX=>?_
       ·first|assumption|exact⟨HG9,HG8,Mg⟩|exact hS20|exact hS21
       clear hK;refine lh 22 fun KcZq hK=>?_
       go_simp;have hx:=lI AcZq AbZq _ _ ccZq cb _ _ W20 HR20.at (HR16.ao HO20 fun _ _=>id).at HMC2 HMB13;rw[decide_eq_true rfl]at hx;refine hx.mono ?_;rintro e W21 ⟨rfl,mqZq,rfl⟩;have HO21:=ae (HO20.trans ((af.ak aA W20).drewN mqZq));have hS21:(ba (W20.drewN mqZq) g2 9 (.bool false))∧(aF (W20.drewN mqZq) g2 8 code)∧(aF (W20.drewN mqZq) dnb 8 code):=⟨((af.ak aA W20).drewN mqZq).cell aX.1 id,((af.ak aA W20).drewN mqZq).cell aX.2.1 id,((af.ak aA W20).drewN mqZq).cell aX.2.2 id⟩;refine lj hK ?_ fun aX=>?_
       ·first|assumption|exact⟨HG9,HG8,Mg⟩|exact hS20|exact hS21
       clear hK;refine eZ [23] ?_;refine jz ?_;clear aX;have y8:=HO21.cell Mg id;have y9:=HO21.cell HN9 id
       cases grZq with
       |true=>
        have KI:=HGC.out rfl;subst KI;go_wp2_with fail;go_ret;exact⟨rfl,HI16.o.trans HO21⟩
       |false=>
        go_wp2_with fail;go_ret;exact⟨rfl,HI16.o.trans HO21⟩
   ·skip
    refine kb (fun w':World=>Box w' cfb 25 (aj c (.slice A c.h.length m))) 7 ?_ ?_
    ·first|exact kj.drew|exact uo|exact Ga
    intro aX;refine bj (i:=0) (v:=.agg (aj c (.slice A c.h.length m))) (by kernel_rfl) rfl (by kernel_rfl) (fun _ _ _ h=>h) (yieldsIf_load_mid (by rfl) 25 _ rfl cfb 0 (by rfl) (aj c (.slice A c.h.length m)).toList _ (fun w' hw j v hj=>by rw[Nat.zero_add];exact Box.ag hw (by rw[←Array.getElem?_toList];exact hj)) Tryz.underlying25 rfl (by kernel_rfl)) (by assumption) ?_;refine sd ?_;refine lh 1 fun KcZq hK=>?_
    go_simp;refine(xN W3.drew).mono ?_;rintro e W4 ⟨db,lb,rfl,hd4,hlb4,hdb4,gB⟩;have PF:=ae hd4;have HDL4:=aH (W3.heap.size≤lb∧W3.heap.size≤db) (⟨hlb4,hdb4⟩);have uo:=ae (gB.az kj.drew id);have jb:=ae (b7.drew.trans gB);have HSZ3:=aH (w.heap.size≤W3.heap.size) (b7.size);have HMB4:=ae (gB.az HMB3.drew id);have HML4:=aH (mxb<W4.heap.size) (HMB4.lt);clear hd4 hlb4 hdb4 gB;refine lj hK ?_ fun aX=>?_
    ·first|exact kj.drew|exact uo|exact Ga
    clear hK;refine lh 2 fun KcZq hK=>?_
    go_simp;have HN:=ae (ara_new_no (db:=db) hP W4 (tY.keep jb));refine HN.mono ?_;rintro e W5 ⟨rfl,eD⟩;have kh:=ae (jb.trans eD);have Ga:=ae (eD.az uo id);clear eD HN;refine lj hK ?_ fun aX=>?_
    ·first|exact kj.drew|exact uo|exact Ga
    clear hK;refine eZ [3,4,5,6] ?_;refine jz ?_;go_wp2_with fail;go_ret;exact⟨rfl,kh⟩
end
end Go.Proofs.YtpcfhbeakecihaaGreat

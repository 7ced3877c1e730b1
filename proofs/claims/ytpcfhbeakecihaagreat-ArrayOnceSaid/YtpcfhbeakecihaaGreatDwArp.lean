/- texts Arp Arq Art Msr -/
import Derived.Test.YtpcfhbeakecihaaGreatM32
import Derived.Test.YtpcfhbeakecihaaGreatM38
import Derived.Test.YtpcfhbeakecihaaGreatDwSpa
import Derived.Test.YtpcfhbeakecihaaGreatM3
import Derived.Test.YtpcfhbeakecihaaGreatM2
import Derived.Test.YtpcfhbeakecihaaGreatM1
import Derived.Test.YtpcfhbeakecihaaGreatM4
import Derived.Test.YtpcfhbeakecihaaGreatM5
import Derived.Test.YtpcfhbeakecihaaGreatM35
set_option linter.all false
set_option maxHeartbeats 20000000
set_option maxRecDepth 100000
namespace Go.Proofs.YtpcfhbeakecihaaGreat
open Go.RowKit Go.ChangeShapes Go.WideShapes
structure AMZq (σ:Type) where
 s:σ
 D:Int→Option (List Int)
 d:dH
 down:Bool
 reads:Nat
def mkA (kind client slot boot op block code:Int)(g:Bool)(t:List Int):PM:=⟨⟨fun i=>[kind,client,slot,boot,op,block,0,0,code].getD i 0,g⟩,t⟩
section
variable {σ:Type}(sp:oz σ)(c:aN)
def aPutM (M:AMZq σ)(b:Int)(t:List Int)(wB:Int):AMZq σ:=
 if hM c 2 b t.length wB≠0 then M
 else {M with s:=(sp.add M.s b).1,D:=aD (if(sp.add M.s b).2.2=true then aD M.D (sp.add M.s b).2.1 none else M.D) b (some t)}
def aPutT (M:AMZq σ)(b:Int)(t:List Int)(wB:Int):List PM:=
 if hM c 2 b t.length wB≠0 then[]else if(sp.add M.s b).2.2=true∧c.f 4=1 then[mkA 14 0 0 0 0 (sp.add M.s b).2.1 0 false []]else[]
def aDropM (M:AMZq σ)(b:Int):AMZq σ:=if(M.D b).isSome=true then {M with s:=sp.rem M.s b,D:=aD M.D b none} else M
def aKeepM (M:AMZq σ)(b:Int)(t:List Int)(wB:Int):AMZq σ:=if c.f 4≠2∨(wB=3∧dt c 2 b wB=true)then aPutM sp c M b t wB else aDropM sp M b
def aKeepT (M:AMZq σ)(b:Int)(t:List Int)(wB:Int):List PM:=if c.f 4≠2∨(wB=3∧dt c 2 b wB=true)then aPutT sp c M b t wB else[]
def aSto (M:AMZq σ)(b:Int):Nat×List Int:=eH (c.f 3).toNat (M.d.sec (1+b.toNat))
def aHit (M:AMZq σ)(b:Int):AMZq σ:={M with s:=sp.use M.s b}
def aMiss (M:AMZq σ):AMZq σ:={M with reads:=M.reads+1}
def aReadM (M:AMZq σ)(b wB:Int):AMZq σ:=
 match M.D b with
 |some t=>if c.f 4=2 then aKeepM sp c (aHit sp M b) b t wB else aHit sp M b
 |none=>if 0≤b∧b<c.f 2 then aKeepM sp c (aMiss M) b (aSto c M b).2 wB else M
def aReadT (M:AMZq σ)(b wB:Int):List PM:=
 match M.D b with
 |some t=>(if c.f 4=2 then aKeepT sp c (aHit sp M b) b t wB else[]) ++ [mkA 12 0 0 0 0 b 0 false t]
 |none=>if 0≤b∧b<c.f 2 then aKeepT sp c (aMiss M) b (aSto c M b).2 wB ++ [mkA 12 0 0 0 0 b 0 false (aSto c M b).2]else[mkA 12 0 0 0 0 b 9 false []]
def aWZq (sh:Nat→Int)(M:AMZq σ)(m:ec)(t:List Int):dH×Int×Int:=stWrite sh (c.f 3).toNat M.d (fun i=>m.f (i+1)) t
def aVer (d:dH)(b:Int):Nat:=if 0≤b∧b<c.f 2 then(eH (c.f 3).toNat (d.sec (1+b.toNat))).1 else 0
def aDone (m:ec)(code:Int)(g:Bool):PM:=mkA 13 (m.f 1) (m.f 2) (m.f 3) (m.f 4) (m.f 5) code g []
def aWriteM (sh:Nat→Int)(M:AMZq σ)(m:ec)(t:List Int):AMZq σ:=
 if(aWZq c sh M m t).2.2=8 then {M with d:=(aWZq c sh M m t).1,down:=true}
 else if(aWZq c sh M m t).2.2≠0 then {M with d:=(aWZq c sh M m t).1}
 else if aVer c (aWZq c sh M m t).1 (m.f 5)≠aVer c M.d (m.f 5)then aKeepM sp c {M with d:=(aWZq c sh M m t).1} (m.f 5) t (m.f 6)
 else {M with d:=(aWZq c sh M m t).1}
def aWriteT (sh:Nat→Int)(M:AMZq σ)(m:ec)(t:List Int):List PM:=
 if(aWZq c sh M m t).2.2=8∨(aWZq c sh M m t).2.2=12 then[]
 else if(aWZq c sh M m t).2.2≠0 then[aDone m (aWZq c sh M m t).2.2 false]
 else if aVer c (aWZq c sh M m t).1 (m.f 5)≠aVer c M.d (m.f 5)then aKeepT sp c {M with d:=(aWZq c sh M m t).1} (m.f 5) t (m.f 6) ++ [aDone m (aWZq c sh M m t).2.1 true]
 else[aDone m (aWZq c sh M m t).2.1 false]
def aHearM (sh:Nat→Int)(M:AMZq σ)(m:ec)(t:List Int):AMZq σ:=
 if M.down=true∨nW m t.length=false then M
 else if m.f 0=8 then aReadM sp c M (m.f 5) (m.f 6)
 else if m.f 0=9 then aWriteM sp c sh M m t
 else if m.f 0=10 then(if c.f 4=2∧m.f 6=3 then aPutM sp c M (m.f 5) t (m.f 6)else M)
 else if m.f 0=11 then aDropM sp M (m.f 5)
 else M
def aHearT (sh:Nat→Int)(M:AMZq σ)(m:ec)(t:List Int):List PM:=
 if M.down=true∨nW m t.length=false then[]
 else if m.f 0=8 then aReadT sp c M (m.f 5) (m.f 6)
 else if m.f 0=9 then aWriteT sp c sh M m t
 else[]
end
end Go.Proofs.YtpcfhbeakecihaaGreat

namespace Go.Proofs.YtpcfhbeakecihaaGreat
open Go.RowKit Go.ChangeShapes Go.WideShapes
section
variable {sh:Nat→Int}{size:Nat}{d:dH}{wr:Nat→Int}{t:List Int}
theorem slotI_gt (hp:zh sh){c s:Int}(h0:0≤c)(h1:c<sh 2)(h2:0≤s)(h3:s<sh 3):((slotI sh c s:Nat):Int)=1+sh 0+sh 3*c+s∧slotI sh c s<64∧∀b:Nat,(b:Int)<sh 0→slotI sh c s≠1+b:=by
 have hm:=hp.mul h0 h1;have b0:=hp.b0;have b1:=hp.b1;unfold slotI;generalize sh 3*c=x at *;refine⟨by omega,by omega,fun b hb=>by omega⟩
structure DoesO (sh:Nat→Int)(d:dH)(wr:Nat→Int)(t:List Int)(v:Nat)(d':dH):Prop where
 dnZq:d'.down=false
 j0Zq:d'.sec 0= []
 bl:d'.sec (1+(wr 4).toNat)=blkB v t
 sl:d'.sec (slotI sh (wr 0) (wr 1))=catS [(wr 2).toNat,(wr 3).toNat,0]
 otZq:∀j,j≠0→j≠1+(wr 4).toNat→j≠slotI sh (wr 0) (wr 1)→d'.sec j=d.sec j
theorem stDoes_two (hn:slotI sh (wr 0) (wr 1)≠1+(wr 4).toNat)(h0:slotI sh (wr 0) (wr 1)≠0)(v:Nat):(stDoes sh d wr t v).2=8∨((stDoes sh d wr t v).2=0∧d.down=false∧DoesO sh d wr t v (stDoes sh d wr t v).1):=by
 unfold stDoes;rcases d.write_two (1+(wr 4).toNat) (blkB v t)with h|⟨e1,q1,q2,q3⟩
 ·rw[if_pos (by rw[h];decide)];exact .inl h
 ·rw[if_neg (by rw[e1];decide)];generalize(d.write (1+(wr 4).toNat) (blkB v t)).1=d1 at *;rcases d1.write_two (slotI sh (wr 0) (wr 1)) (catS [(wr 2).toNat,(wr 3).toNat,0])with h|⟨e2,r1,r2,r3⟩
  ·rw[if_pos (by rw[h];decide)];exact .inl h
  ·rw[if_neg (by rw[e2];decide)];generalize(d1.write (slotI sh (wr 0) (wr 1)) (catS [(wr 2).toNat,(wr 3).toNat,0])).1=d2 at *;rcases d2.write_two 0 []with h|⟨e3,s1,s2,s3⟩
   ·exact .inl h
   ·refine .inr ⟨e3,q1,s2,by rw[s3,if_pos rfl],?_,?_,fun j hj hj1 hj2=>?_⟩
    ·rw[s3,if_neg (by omega),r3,if_neg (by omega),q3,if_pos rfl]
    ·rw[s3,if_neg h0,r3,if_pos rfl]
    ·rw[s3,if_neg hj,r3,if_neg hj2,q3,if_neg hj1]
inductive WrO (sh:Nat→Int) (size:Nat) (d:dH) (wr:Nat→Int) (t:List Int):dH×Int×Int→Prop
 |down (d':dH) (c:Int):WrO sh size d wr t (d',c,8)
 |bad (e:Int) (h:e≠8) (h0:e≠0):WrO sh size d wr t (d,0,e)
 |was (k:Nat) (h:uy sh wr=true) (hl:lastOf (d.sec (slotI sh (wr 0) (wr 1)))=((wr 2).toNat,(wr 3).toNat,k)):WrO sh size d wr t (d,(k:Nat),0)
 |full (d':dH) (h:uy sh wr=true) (hb:0≤wr 4∧wr 4<sh 0) (hn:d'.down=false) (hs:d'.sec (slotI sh (wr 0) (wr 1))=catS [(wr 2).toNat,(wr 3).toNat,11]) (ho:∀j,j≠slotI sh (wr 0) (wr 1)→d'.sec j=d.sec j)
  (hv:(eH size (d.sec (1+(wr 4).toNat))).1=1000) (ht:t.length=size):WrO sh size d wr t (d',11,0)
 |done (d':dH) (h:uy sh wr=true) (hb:0≤wr 4∧wr 4<sh 0) (ht:t.length=size) (v:Nat) (hv:v=(eH size (d.sec (1+(wr 4).toNat))).1) (E8:v<1000) (ho:DoesO sh d wr t (v+1) d'):WrO sh size d wr t (d',0,0)
theorem stWrite_out (hp:zh sh):WrO sh size d wr t (stWrite sh size d wr t):=by
 unfold stWrite
 by_cases hb:0≤wr 4∧wr 4<sh 0
 ·rw[if_neg (fun h=>h hb)]
  by_cases ht:t.length=size
  ·rw[if_neg (fun h=>h ht)]
   by_cases hf:uy sh wr=false
   ·rw[if_pos hf];exact .bad 6 (by decide) (by decide)
   ·rw[if_neg hf];have hf:uy sh wr=true:=by simpa using hf
    obtain⟨f0,f1,f2,f3,f4,f5,f6,f7⟩:=fitB_of hf;obtain⟨hsi,hs64,hsn⟩:=slotI_gt hp f0 f1 f2 f3;have J7:=hsn (wr 4).toNat (by omega);have NB:slotI sh (wr 0) (wr 1)≠0:=by
     have:=(hp.mul f0 f1).1;have:=hp.b0;omega
    split
    ·exact .bad 12 (by decide) (by decide)
    ·split
     ·rename_i h
      refine .was _ hf ?_
      ext
      ·show _=(wr 2).toNat;omega
      ·show _=(wr 3).toNat;omega
      ·rfl
     ·split
      ·rename_i hv
       rcases d.write_two (slotI sh (wr 0) (wr 1)) (catS [(wr 2).toNat,(wr 3).toNat,11])with h|⟨h,q1,q2,q3⟩
       ·rw[if_pos (by rw[h];decide),h];exact .down _ _
       ·rw[if_neg (by rw[h];decide)];exact .full _ hf hb q2 (by rw[q3,if_pos rfl]) (fun j hj=>by rw[q3,if_neg hj]) hv ht
      ·rename_i hv
       generalize hJZq:jrS _ _ _ _ _ _ t=J;rcases d.write_two 0 J with h|⟨h,q1,q2,q3⟩
       ·rw[if_pos (by rw[h];decide),h];exact .down _ _
       ·rw[if_neg (by rw[h];decide)];generalize(d.write 0 J).1=d1 at *;rcases stDoes_two (d:=d1) (t:=t) J7 NB ((eH size (d.sec (1+(wr 4).toNat))).1+1)with h2|⟨h2,_,ho⟩
        ·rw[h2];exact .down _ _
        ·rw[h2];refine .done _ hf hb ht _ rfl ?_ ⟨ho.dnZq,ho.j0Zq,ho.bl,ho.sl,fun j h1 h2 h3=>by rw[ho.otZq j h1 h2 h3,q3,if_neg h1]⟩;have:=blkOf_ver size (d.sec (1+(wr 4).toNat));omega
  ·rw[if_pos ht];exact .bad 10 (by decide) (by decide)
 ·rw[if_pos hb];exact .bad 9 (by decide) (by decide)
theorem stWrite_free (h0:d.down=false)(h1:d.b9= -1):(stWrite sh size d wr t).2.2≠8∧(stWrite sh size d wr t).1.b9= -1∧(stWrite sh size d wr t).1.down=false:=by
 unfold stWrite
 split
 ·exact⟨(show(9:Int)≠8 by decide),h1,h0⟩
 split
 ·exact⟨(show(10:Int)≠8 by decide),h1,h0⟩
 split
 ·exact⟨(show(6:Int)≠8 by decide),h1,h0⟩
 split
 ·exact⟨(show(12:Int)≠8 by decide),h1,h0⟩
 split
 ·exact⟨(show(0:Int)≠8 by decide),h1,h0⟩
 split
 ·obtain⟨a1,a2,a3⟩:=dH.write_free h0 h1 (slotI sh (wr 0) (wr 1)) (catS [(wr 2).toNat,(wr 3).toNat,11]);rw[if_neg (by rw[a1];decide)];exact⟨(show(0:Int)≠8 by decide),a2,a3⟩
 ·generalize hJZq:jrS _ _ _ _ _ _ t=J;obtain⟨a1,a2,a3⟩:=dH.write_free h0 h1 0 J;rw[if_neg (by rw[a1];decide)];obtain⟨b1,b2,b3⟩:=stDoes_free (sh:=sh) (wr:=wr) (t:=t) a3 a2 ((eH size (d.sec (1+(wr 4).toNat))).1+1);refine⟨?_,b2,b3⟩
  show(stDoes sh _ wr t _).2≠8
  rw[b1];decide
end
end Go.Proofs.YtpcfhbeakecihaaGreat

namespace Go.Proofs.YtpcfhbeakecihaaGreat
open Go.RowKit Go.ChangeShapes Go.WideShapes
section
variable {σ:Type}{sp:oz σ}{c:aN}{M:AMZq σ}{b wB:Int}{t:List Int}
def AInv (c:aN)(M:AMZq σ):Prop:=∀b l,M.D b=some l→0≤b∧b<c.f 2∧l=(aSto c M b).2
def ATru (c:aN)(M:AMZq σ):Prop:=M.down=true∨(M.d.down=false∧AInv c M)
theorem takesB_all (hP:dJ c)(h4:c.f 4≠2)(h0:0≤b)(h1:b<c.f 2):dt c 2 b wB=true:=by
 have h5:c.f 5=0:=hP.pp.resolve_right h4;unfold dt;rw[if_neg (by rw[h5];decide),h5];simp[h0,h1]
theorem putCode_ok {n:Nat}(h0:0≤b)(h1:b<c.f 2)(hn:(n:Int)=c.f 3)(ht:dt c 2 b wB=true):hM c 2 b n wB=0:=by
 unfold hM jF;rw[if_neg (by simp[h0,h1]),if_neg (by simp[hn]),if_neg (by simp[ht])]
theorem aPut_d:(aPutM sp c M b t wB).d=M.d∧(aPutM sp c M b t wB).down=M.down:=by
 unfold aPutM;split<;>exact⟨rfl,rfl⟩
theorem aDrop_d:(aDropM sp M b).d=M.d∧(aDropM sp M b).down=M.down:=by
 unfold aDropM;split<;>exact⟨rfl,rfl⟩
theorem aKeep_d:(aKeepM sp c M b t wB).d=M.d∧(aKeepM sp c M b t wB).down=M.down:=by
 unfold aKeepM;split
 ·exact aPut_d
 ·exact aDrop_d
theorem aPut_D {y:Int}{l:List Int}(h:(aPutM sp c M b t wB).D y=some l):(y=b∧l=t∧hM c 2 b t.length wB=0)∨(M.D y=some l∧(hM c 2 b t.length wB=0→y≠b)):=by
 unfold aPutM at h
 split at h
 ·rename_i h0;exact .inr ⟨h,fun e=>absurd e h0⟩
 ·rename_i h0
  have h0:hM c 2 b t.length wB=0:=by omega
  have h:aD (if(sp.add M.s b).2.2=true then aD M.D (sp.add M.s b).2.1 none else M.D) b (some t) y=some l:=h;unfold aD at h
  split at h
  ·rename_i e;injection h with h;exact .inl ⟨e,h.symm,h0⟩
  ·rename_i e
   refine .inr ⟨?_,fun _=>e⟩
   split at h
   ·have h:(if y=(sp.add M.s b).2.1 then none else M.D y)=some l:=h
    split at h
    ·cases h
    ·exact h
   ·exact h
theorem aDrop_D {y:Int}{l:List Int}(h:(aDropM sp M b).D y=some l):M.D y=some l∧y≠b:=by
 unfold aDropM at h
 split at h
 ·have h:aD M.D b none y=some l:=h;unfold aD at h
  split at h
  ·cases h
  ·rename_i e;exact⟨h,e⟩
 ·rename_i hn
  refine⟨h,fun e=>hn ?_⟩;rw[←e,h];rfl
theorem aKeep_D (hP:dJ c)(h0:0≤b)(h1:b<c.f 2)(ht:(t.length:Int)=c.f 3){y:Int}{l:List Int}(h:(aKeepM sp c M b t wB).D y=some l):(y=b∧l=t)∨(M.D y=some l∧y≠b):=by
 unfold aKeepM at h
 split at h
 ·rename_i hk
  have hz:hM c 2 b t.length wB=0:=putCode_ok h0 h1 ht (by
   by_cases h4:c.f 4=2
   ·exact(hk.resolve_left fun e=>e h4).2
   ·exact takesB_all hP h4 h0 h1)
  rcases aPut_D h with⟨e1,e2,_⟩|⟨e1,e2⟩
  ·exact .inl ⟨e1,e2⟩
  ·exact .inr ⟨e1,e2 hz⟩
 ·exact .inr (aDrop_D h)
theorem aPutT_kind {p:PM}(h:p∈aPutT sp c M b t wB):p.m.f 0=14∧p=mkA 14 0 0 0 0 (sp.add M.s b).2.1 0 false []∧(sp.add M.s b).2.2=true∧c.f 4=1∧hM c 2 b t.length wB=0:=by
 unfold aPutT at h
 split at h
 ·cases h
 ·rename_i h0
  split at h
  ·rename_i h2
   have h3:=List.mem_singleton.1 h;exact⟨by rw[h3];rfl,h3,h2.1,h2.2,by omega⟩
  ·cases h
theorem aKeepT_kind {p:PM}(h:p∈aKeepT sp c M b t wB):p.m.f 0=14:=by
 unfold aKeepT at h
 split at h
 ·exact(aPutT_kind h).1
 ·cases h
def TelOk (c:aN)(M:AMZq σ)(p:PM):Prop:=p.m.f 0=12→p.m.f 8=0→0≤p.m.f 5∧p.m.f 5<c.f 2∧p.d=(aSto c M (p.m.f 5)).2
theorem AInv.keep (hP:dJ c)(h:AInv c M)(h0:0≤b)(h1:b<c.f 2)(ht:t=(aSto c M b).2):AInv c (aKeepM sp c M b t wB):=by
 have hl:(t.length:Int)=c.f 3:=by rw[ht,aSto,mF];have:=hP.p3;omega
 intro y l hy;have e:aSto c (aKeepM sp c M b t wB) y=aSto c M y:=by unfold aSto;rw[aKeep_d.1]
 rw[e];rcases aKeep_D hP h0 h1 hl hy with⟨e1,e2⟩|⟨e1,_⟩
 ·rw[e1,e2];exact⟨h0,h1,ht⟩
 ·exact h y l e1
theorem aRead_true (hP:dJ c)(h:AInv c M):AInv c (aReadM sp c M b wB)∧(aReadM sp c M b wB).d=M.d∧∀p∈aReadT sp c M b wB,TelOk c (aReadM sp c M b wB) p:=by
 have hd:(aReadM sp c M b wB).d=M.d:=by
  unfold aReadM
  split
  ·split
   ·exact aKeep_d.1
   ·rfl
  ·split
   ·exact aKeep_d.1
   ·rfl
 have hs:∀y,aSto c (aReadM sp c M b wB) y=aSto c M y:=fun y=>by unfold aSto;rw[hd]
 refine⟨?_,hd,fun p hp=>?_⟩
 ·unfold aReadM
  split
  ·rename_i t ht
   have hb:=h b t ht;have h':AInv c (aHit sp M b):=h
   split
   ·exact h'.keep hP hb.1 hb.2.1 hb.2.2
   ·exact h'
  ·split
   ·rename_i hb
    have h':AInv c (aMiss M):=h;exact h'.keep hP hb.1 hb.2 rfl
   ·exact h
 ·intro e0 e8;rw[hs];unfold aReadT at hp
  split at hp
  ·rename_i t ht
   rcases List.mem_append.1 hp with h1|h1
   ·split at h1
    ·have:=aKeepT_kind h1;omega
    ·cases h1
   ·rw[List.mem_singleton.1 h1];exact h b t ht
  ·split at hp
   ·rename_i hb
    rcases List.mem_append.1 hp with h1|h1
    ·have:=aKeepT_kind h1;omega
    ·rw[List.mem_singleton.1 h1];exact⟨hb.1,hb.2,rfl⟩
   ·rw[List.mem_singleton.1 hp]at e8;exact absurd e8 (by show¬(9:Int)=0;decide)
theorem shOf_3 (c:aN):(sr c) 0=c.f 2∧(sr c) 1=c.f 3∧(sr c) 2=c.f 0∧(sr c) 3=c.f 1:=⟨rfl,rfl,rfl,rfl⟩
theorem WrO.blk {size:Nat}{d:dH}{wr:Nat→Int}{t:List Int}{sh:Nat→Int}(hp:zh sh)(hz:size≤16){o:dH×Int×Int}(h:WrO sh size d wr t o)(h8:o.2.2≠8):
 (o.2.2=0∧0≤wr 4∧wr 4<sh 0∧t.length=size∧o.2.1=0∧(eH size (o.1.sec (1+(wr 4).toNat)))=((eH size (d.sec (1+(wr 4).toNat))).1+1,t)∧∀b:Nat,(b:Int)<sh 0→b≠(wr 4).toNat→o.1.sec (1+b)=d.sec (1+b))∨
 (∀b:Nat,(b:Int)<sh 0→o.1.sec (1+b)=d.sec (1+b)):=by
 cases h with
 |down d' c=>exact absurd rfl h8
 |bad e h h0=>exact .inr fun _ _=>rfl
 |was k h hl=>exact .inr fun _ _=>rfl
 |full d' h hb hn hs ho hv ht=>
  obtain⟨f0,f1,f2,f3,_⟩:=fitB_of h;have hg:=(slotI_gt hp f0 f1 f2 f3).2.2;exact .inr fun b h1=>ho _ fun e=>hg b h1 e.symm
 |done d' h hb ht v hv E8 ho=>
  obtain⟨f0,f1,f2,f3,_⟩:=fitB_of h;have hg:=(slotI_gt hp f0 f1 f2 f3).2.2;refine .inl ⟨rfl,hb.1,hb.2,ht,rfl,?_,fun b h1 h2=>ho.otZq _ (by omega) (by omega) fun e=>hg b h1 e.symm⟩;rw[ho.bl,blkOf_put (by omega) ht hz,hv]
theorem WrO.dnZq {size:Nat}{d:dH}{wr:Nat→Int}{t:List Int}{sh:Nat→Int}{o:dH×Int×Int}(h:WrO sh size d wr t o)(h8:o.2.2≠8)(h0:d.down=false):o.1.down=false:=by
 cases h with
 |down d' c=>exact absurd rfl h8
 |bad e h h0'=>exact h0
 |was k h hl=>exact h0
 |full d' h hb hn hs ho hv ht=>exact hn
 |done d' h hb ht v hv E8 ho=>exact ho.dnZq
theorem aWrite_true (hP:dJ c)(h:M.d.down=false)(hi:AInv c M)(m:ec):ATru c (aWriteM sp c (sr c) M m t)∧∀p∈aWriteT sp c (sr c) M m t,p.m.f 0≠12:=by
 have hsz:(c.f 3).toNat≤16:=by have:=hP.p3;omega
 refine⟨?_,fun p hp=>?_⟩
 ·unfold aWriteM;have ho:WrO (sr c) (c.f 3).toNat M.d (fun i=>m.f (i+1)) t (aWZq c (sr c) M m t):=stWrite_out (xK hP);generalize aWZq c (sr c) M m t=o at *
  split
  ·exact .inl rfl
  ·rename_i h8
   refine .inr ?_;have QI:=ho.dnZq h8 h;have same:(∀b:Nat,(b:Int)<c.f 2→o.1.sec (1+b)=M.d.sec (1+b))→AInv c {M with d:=o.1}:=fun hq y l hy=>by
    obtain⟨h1,h2,h3⟩:=hi y l hy;refine⟨h1,h2,?_⟩
    show l=(eH _ (o.1.sec (1+y.toNat))).2
    rw[hq y.toNat (by omega)];exact h3
   rcases ho.blk (xK hP) hsz h8 with⟨e0,b0,b1,hl,_,hb,hr⟩|hr
   ·rw[if_neg (fun e=>e e0)];have b0:0≤m.f 5:=b0;have b1:m.f 5<c.f 2:=b1;have hb:eH (c.f 3).toNat (o.1.sec (1+(m.f 5).toNat))=((eH (c.f 3).toNat (M.d.sec (1+(m.f 5).toNat))).1+1,t):=hb;have hv:aVer c o.1 (m.f 5)≠aVer c M.d (m.f 5):=by
     unfold aVer;rw[if_pos ⟨b0,b1⟩,if_pos ⟨b0,b1⟩,hb]
     show _+1≠_
     omega
    rw[if_pos hv];refine⟨by rw[aKeep_d.1];exact QI,fun y l hy=>?_⟩;have e:aSto c (aKeepM sp c {M with d:=o.1} (m.f 5) t (m.f 6)) y=eH (c.f 3).toNat (o.1.sec (1+y.toNat)):=by unfold aSto;rw[aKeep_d.1]
    rw[e];rcases aKeep_D hP b0 b1 (by have:=hP.p3;omega) hy with⟨e1,e2⟩|⟨e1,e2⟩
    ·rw[e1,e2,hb];exact⟨b0,b1,rfl⟩
    ·obtain⟨h1,h2,h3⟩:=hi y l e1;refine⟨h1,h2,?_⟩;rw[hr y.toNat (by show _<c.f 2;omega) (by show _≠(m.f 5).toNat;omega)];exact h3
   ·have hs:=same hr
    split
    ·exact⟨QI,hs⟩
    ·have hv:¬aVer c o.1 (m.f 5)≠aVer c M.d (m.f 5):=fun e=>e (by
      unfold aVer
      split
      ·rename_i hb;rw[hr (m.f 5).toNat (by show _<c.f 2;omega)]
      ·rfl)
     rw[if_neg hv];exact⟨QI,hs⟩
 ·unfold aWriteT at hp
  split at hp
  ·cases hp
  ·split at hp
   ·rw[List.mem_singleton.1 hp];show(13:Int)≠12;decide
   ·split at hp
    ·rcases List.mem_append.1 hp with h1|h1
     ·have:=aKeepT_kind h1;omega
     ·rw[List.mem_singleton.1 h1];show(13:Int)≠12;decide
    ·rw[List.mem_singleton.1 hp];show(13:Int)≠12;decide
theorem aHear_true (hP:dJ c)(h:ATru c M)(m:ec)(hd:m.f 0=10→0≤m.f 5∧m.f 5<c.f 2∧t=(aSto c M (m.f 5)).2):
 ATru c (aHearM sp c (sr c) M m t)∧∀p∈aHearT sp c (sr c) M m t,TelOk c (aHearM sp c (sr c) M m t) p:=by
 unfold aHearM aHearT
 by_cases hq:M.down=true∨nW m t.length=false
 ·rw[if_pos hq,if_pos hq];exact⟨h,fun p hp=>by cases hp⟩
 ·rw[if_neg hq,if_neg hq];rcases h with h|⟨h,hi⟩
  ·exact absurd (.inl h) hq
  ·by_cases e8:m.f 0=8
   ·rw[if_pos e8,if_pos e8];obtain⟨h1,h2,h3⟩:=aRead_true (sp:=sp) (b:=m.f 5) (wB:=m.f 6) hP hi;exact⟨.inr ⟨by rw[h2];exact h,h1⟩,h3⟩
   ·rw[if_neg e8,if_neg e8]
    by_cases e9:m.f 0=9
    ·rw[if_pos e9,if_pos e9];obtain⟨h1,h2⟩:=aWrite_true (sp:=sp) (t:=t) hP h hi m;exact⟨h1,fun p hp e=>absurd e (h2 p hp)⟩
    ·rw[if_neg e9,if_neg e9];refine⟨?_,fun p hp=>by cases hp⟩
     split
     ·rename_i C7
      obtain⟨b0,b1,ht⟩:=hd C7
      split
      ·refine .inr ⟨by rw[aPut_d.1];exact h,fun y l hy=>?_⟩;have e:aSto c (aPutM sp c M (m.f 5) t (m.f 6)) y=aSto c M y:=by unfold aSto;rw[aPut_d.1]
       rw[e];rcases aPut_D hy with⟨e1,e2,_⟩|⟨e1,_⟩
       ·rw[e1,e2];exact⟨b0,b1,ht⟩
       ·exact hi y l e1
      ·exact .inr ⟨h,hi⟩
     ·split
      ·refine .inr ⟨by rw[aDrop_d.1];exact h,fun y l hy=>?_⟩;have e:aSto c (aDropM sp M (m.f 5)) y=aSto c M y:=by unfold aSto;rw[aDrop_d.1]
       rw[e];exact hi y l (aDrop_D hy).1
      ·exact .inr ⟨h,hi⟩
end
end Go.Proofs.YtpcfhbeakecihaaGreat

namespace Go.Proofs.YtpcfhbeakecihaaGreat
open Go.RowKit Go.ChangeShapes Go.WideShapes
def pm0:PM:=⟨⟨fun _=>0,false⟩,[]⟩
theorem dh.one {Z:ZN}{w w':World}{base:Nat}{v:Value}(p:PM){cs:Array Value}(hcs:bc p.m v=cs)(hd:pZ Z w' v p.d)(hw:w'=w.alloc (.cells cs 37))(hb:base≤w.heap.size):dh Z w' base (cS w.heap.size 1 1) [p]:=by
 subst hw hcs;refine⟨[(p,v)],rfl,⟨rfl,.inr ⟨w.heap.size,1,_,rfl,hb,Box.fresh w 37 _,Nat.le_refl _,by unfold maxLen;decide,rfl,?_⟩⟩,fun q hq=>?_⟩
 ·simp[bc]
 ·rw[List.mem_singleton.1 hq];exact hd
section
variable {Z:ZN}{w:World}
theorem dh.wr {base:Nat}{v:Value}{L:List PM}(h:dh Z w base v L)(hb:Z.B≤base):Wr Z (aJ v) w:=fun k _ hk=>⟨Nat.le_trans hb (h.az hk).1,.inr fun cs h2=>by
 obtain⟨_,cs',h3⟩:=h.az hk;exact(h3.off h2 (by decide)) rfl⟩
theorem addr_at (g n:Nat):(⟨g,0,none⟩:Addr).add n=⟨g,n,none⟩:=by
 cases n with
 |zero=>rfl
 |succ n=>simp[Addr.add]
theorem msg_len (p:PM×Value):((fun p:PM×Value=>(bc p.1.m p.2).toList) p).length=11:=rfl
theorem dh.at_ {base:Nat}{v:Value}{L:List PM}(h:dh Z w base v L){i:Nat}(hi:i<L.length):∃g cap A m,v=cS g L.length cap∧(∀j u,(bc (L.getD i pm0).m (.slice A (L.getD i pm0).d.length m))[j]? =some u→ba w g (i*11+j) u)∧pZ Z w (.slice A (L.getD i pm0).d.length m) (L.getD i pm0).d:=by
 obtain⟨X,rfl,h1,h2⟩:=h;rw[List.length_map]at hi;obtain⟨A,cap,e,_,_⟩:=oH h1;have hx:X.getD i (pm0,ey)∈X:=by
  rw[List.getD_eq_getElem?_getD,List.getElem?_eq_getElem hi];exact List.getElem_mem hi
 have hm:(X.map Prod.fst).getD i pm0=(X.getD i (pm0,ey)).1:=by
  rw[List.getD_eq_getElem?_getD,List.getD_eq_getElem?_getD,List.getElem?_map,List.getElem?_eq_getElem hi];rfl
 have hdd:=h2 _ hx;obtain⟨A1Zq,m1,e1⟩:=hdd.shape;obtain⟨hlen,h3⟩:=h1;rcases h3 with⟨_,h0⟩|⟨g,cp,cur,e2,hb,hg,hn,nN,hs,ht⟩
 ·omega
 ·refine⟨g,cp,A1Zq,m1,by rw[e2,List.length_map],fun j u hj=>?_,by rw[hm,←e1];exact hdd⟩;rw[hm,←e1]at hj;have hj11:j<11:=by
   rcases Nat.lt_or_ge j 11 with h|h
   ·exact h
   ·rw[Array.getElem?_eq_none (by show 11≤j;exact h)]at hj;cases hj
  have hcell:=World.ownsRow.cells (w:=w) (base:=base) (e:=37) (size:=11) (v:=v) (n:=X.length) (xs:=X.flatMap fun p=>(bc p.1.m p.2).toList) ⟨hlen,.inr ⟨g,cp,cur,e2,hb,hg,hn,nN,hs,ht⟩⟩ (g:=g) (by rw[e2];rfl) (i*11+j) u (by
   rw[kq (fun p:PM×Value=>(bc p.1.m p.2).toList) 11 (pm0,ey) msg_len X i j hi hj11,Array.getElem?_toList];exact hj)
  rwa [addr_at]at hcell
end
end Go.Proofs.YtpcfhbeakecihaaGreat

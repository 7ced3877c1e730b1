/- Lemmas. -/
import Derived.Test.YtpcfhbeakecihaaGreatM40
import Derived.Test.YtpcfhbeakecihaaGreatM41
import Derived.Test.YtpcfhbeakecihaaGreatM42
set_option linter.all false
set_option maxHeartbeats 20000000
set_option maxRecDepth 100000
namespace Go.Proofs.YtpcfhbeakecihaaGreat
open Go.ChangeShapes Go.RowKit Go.WideShapes
structure Cj where
 lF:Nat→Nat
 kz:Nat→List Int
 Ck:Nat→Nat
 op:Nat→Nat
 cd:Nat→Nat
def nB (c:aQ):Nat:=(c.f 2).toNat
def CF (c:aQ):Nat:=(c.f 0*c.f 1).toNat
def rsI (c:aQ)(wr:Nat→Int):Nat:=(wr 0*c.f 1+wr 1).toNat
def adO (c:aQ)(S:Cj)(wr:Nat→Int)(n:Nat):Int:=
 if¬wr 4<c.f 2 then 9
 else if(n:Int)≠c.f 3 then 10
 else if¬(wr 0<c.f 0∧wr 1<c.f 1∧1≤wr 2∧1≤wr 3)then 6
 else if wr 2<(S.Ck (rsI c wr):Nat)∨(wr 2=(S.Ck (rsI c wr):Nat)∧wr 3<(S.op (rsI c wr):Nat))then 12
 else 0
def aeN (c:aQ)(S:Cj)(wr:Nat→Int):Cj:={S with Ck:=ba S.Ck (rsI c wr) (wr 2).toNat,op:=ba S.op (rsI c wr) (wr 3).toNat,cd:=ba S.cd (rsI c wr) 11}
def aeH (c:aQ)(S:Cj)(wr:Nat→Int)(t:List Int):Cj:={lF:=ba S.lF (wr 4).toNat (S.lF (wr 4).toNat+1),kz:=ba S.kz (wr 4).toNat t,Ck:=ba S.Ck (rsI c wr) (wr 2).toNat,op:=ba S.op (rsI c wr) (wr 3).toNat,cd:=ba S.cd (rsI c wr) 0}
def adX (c:aQ)(S:Cj)(wr:Nat→Int)(t:List Int):Cj×Int×Int:=
 if adO c S wr t.length≠0 then(S,0,adO c S wr t.length)
 else if wr 2=(S.Ck (rsI c wr):Nat)∧wr 3=(S.op (rsI c wr):Nat)then(S,(S.cd (rsI c wr):Nat),0)
 else if S.lF (wr 4).toNat=1000 then(aeN c S wr,11,0)
 else(aeH c S wr t,0,0)
structure aeG (c:aQ)(d:bC)(S:Cj):Prop where
 bl:∀b,b<nB c→bD (c.f 3).toNat (d.sec (1+b))=(S.lF b,S.kz b)
 sl:∀i,i<CF c→cS (d.sec (1+nB c+i))=(S.Ck i,S.op i,S.cd i)
def WrG (wr:Nat→Int):Prop:=0≤wr 0∧0≤wr 1∧0≤wr 2∧wr 2≤1099511627776∧0≤wr 3∧wr 3≤1099511627776∧0≤wr 4
section
variable {c:aQ}{d:bC}{S:Cj}{wr:Nat→Int}{t:List Int}
theorem aeB (hP:dp c):((nB c:Nat):Int)=c.f 2∧1≤nB c∧nB c≤32:=by
 have:=hP.p2;unfold nB;omega
theorem aeV (hP:dp c):((CF c:Nat):Int)=c.f 0*c.f 1∧1≤CF c∧CF c≤16:=by
 have h0:=hP.p0;have h1:=hP.p1;unfold CF;generalize c.f 0=x at *;generalize c.f 1=y at *;rcases(show x=1∨x=2∨x=3∨x=4 by omega)with rfl|rfl|rfl|rfl<;>omega
theorem aeM (hP:dp c)(h0:0≤wr 0)(h1:wr 0<c.f 0)(h2:0≤wr 1)(h3:wr 1<c.f 1):((rsI c wr:Nat):Int)=wr 0*c.f 1+wr 1∧rsI c wr<CF c∧bw (br c) (wr 0) (wr 1)=1+nB c+rsI c wr:=by
 have hn:=aeV hP;have hb:=aeB hP;have hm:=(uL hP).mul (c:=wr 0) h0 h1;have e1:c.f 1*wr 0=wr 0*c.f 1:=Int.mul_comm _ _;have e2:(br c) 3*wr 0=wr 0*c.f 1:=e1;have e3:(br c) 2*(br c) 3=c.f 0*c.f 1:=rfl;have e4:(br c) 3=c.f 1:=rfl;have e5:(br c) 0=c.f 2:=rfl;rw[e2,e3,e4]at hm;unfold bw;rw[e2,e5];unfold rsI;omega
theorem afy (hg:WrG wr):iT (br c) wr=decide (wr 0<c.f 0∧wr 1<c.f 1∧1≤wr 2∧1≤wr 3):=by
 obtain⟨g0,g1,g2,g3,g4,g5,g6⟩:=hg;unfold iT;have e:(br c) 2=c.f 0∧(br c) 3=c.f 1:=⟨rfl,rfl⟩;rw[e.1,e.2];refine decide_eq_decide.2 ⟨fun h=>⟨h.2.1,h.2.2.2.1,h.2.2.2.2.1,h.2.2.2.2.2.2.1⟩,fun h=>⟨g0,h.1,g1,h.2.1,h.2.2.1,g3,h.2.2.2,g5⟩⟩
theorem aeG.full (hP:dp c)(hr:aeG c d S)(h0:0≤wr 0)(h1:wr 0<c.f 0)(h2:0≤wr 1)(h3:wr 1<c.f 1)(g2:wr 2≤1099511627776)(g3:wr 3≤1099511627776){d':bC}(hs:d'.sec (bw (br c) (wr 0) (wr 1))=bB [(wr 2).toNat,(wr 3).toNat,11])(ho:∀j,j≠bw (br c) (wr 0) (wr 1)→d'.sec j=d.sec j):aeG c d' (aeN c S wr):=by
 obtain⟨e1,e2,e3⟩:=aeM hP h0 h1 h2 h3;rw[e3]at hs ho;refine⟨fun b hb=>?_,fun i hi=>?_⟩
 ·rw[ho (1+b) aj];exact hr.bl b hb
 ·unfold aeN;dsimp only;unfold ba
  by_cases e:i=rsI c wr
  ·rw[if_pos e,if_pos e,if_pos e,e,hs];exact Up aj aj aE
  ·rw[if_neg e,if_neg e,if_neg e,ho _ aj];exact hr.sl i hi
theorem aeG.done (hP:dp c)(hr:aeG c d S)(h0:0≤wr 0)(h1:wr 0<c.f 0)(h2:0≤wr 1)(h3:wr 1<c.f 1)(g2:wr 2≤1099511627776)(g3:wr 3≤1099511627776)(h4:0≤wr 4)(h5:wr 4<c.f 2)(ht:t.length=(c.f 3).toNat){d':bC}(hv:S.lF (wr 4).toNat<1000)(hd:RD (br c) d wr t (S.lF (wr 4).toNat+1) d'):aeG c d' (aeH c S wr t):=by
 obtain⟨e1,e2,e3⟩:=aeM hP h0 h1 h2 h3;have hb:=aeB hP;have MY:=hP.p3;have hs:=hd.sl;have Fa:=hd.bl;have ho:=hd.ot;rw[e3]at hs ho;have hw4:(wr 4).toNat<nB c:=aj;refine⟨fun b hb=>?_,fun i hi=>?_⟩
 ·unfold aeH;dsimp only;unfold ba
  by_cases e:b=(wr 4).toNat
  ·rw[if_pos e,if_pos e,e,Fa];exact Je aj ht aj
  ·rw[if_neg e,if_neg e,ho _ aj aj aj];exact hr.bl b hb
 ·unfold aeH;dsimp only;unfold ba
  by_cases e:i=rsI c wr
  ·rw[if_pos e,if_pos e,if_pos e,e,hs];exact Up aj aj aE
  ·rw[if_neg e,if_neg e,if_neg e,ho _ aj aj aj];exact hr.sl i hi
theorem afK (hP:dp c)(f0:d.down=false)(f1:d.cA= -1)(hr:aeG c d S)(hg:WrG wr):
 (cY (br c) (c.f 3).toNat d wr t).2=(adX c S wr t).2∧aeG c (cY (br c) (c.f 3).toNat d wr t).1 (adX c S wr t).1:=by
 have hp:=uL hP;have h8:=(Qy (sh:=br c) (size:=(c.f 3).toNat) (wr:=wr) (t:=t) f0 f1).1;have ho:J5 (br c) (c.f 3).toNat d wr t (cY (br c) (c.f 3).toNat d wr t):=Cy hp;have hg':=hg;obtain⟨g0,g1,g2,g3,g4,g5,g6⟩:=hg;have MY:=hP.p3;have ago:iT (br c) wr=decide (wr 0<c.f 0∧wr 1<c.f 1∧1≤wr 2∧1≤wr 3):=afy hg';unfold adX
 by_cases hb:wr 4<c.f 2
 ·by_cases ht:t.length=(c.f 3).toNat
  ·have V6:(t.length:Int)=c.f 3:=aj
   by_cases hf:wr 0<c.f 0∧wr 1<c.f 1∧1≤wr 2∧1≤wr 3
   ·have iQ:iT (br c) wr=true:=ago.trans (decide_eq_true hf);obtain⟨e1,e2,e3⟩:=aeM hP g0 hf.1 g1 hf.2.1;have hl:cS (d.sec (bw (br c) (wr 0) (wr 1)))=(S.Ck (rsI c wr),S.op (rsI c wr),S.cd (rsI c wr)):=by rw[e3];exact hr.sl _ e2
    have bL:0≤wr 4∧wr 4<(br c) 0:=⟨g6,hb⟩;have hST:=D2 (d:=d) bL ht iQ;rw[hl]at hST;have hW:adO c S wr t.length=if wr 2<(S.Ck (rsI c wr):Nat)∨(wr 2=(S.Ck (rsI c wr):Nat)∧wr 3<(S.op (rsI c wr):Nat))then 12 else 0:=by
     unfold adO;rw[if_neg (fun h=>h hb),if_neg (fun h=>h V6),if_neg (fun h=>h hf)]
    by_cases hold:wr 2<(S.Ck (rsI c wr):Nat)∨(wr 2=(S.Ck (rsI c wr):Nat)∧wr 3<(S.op (rsI c wr):Nat))
    ·rw[if_pos hold]at hST hW;rw[hW,if_pos aE,hST];exact⟨rfl,hr⟩
    ·rw[if_neg hold]at hST hW;rw[hW,if_neg aE]
     by_cases j8:wr 2=(S.Ck (rsI c wr):Nat)∧wr 3=(S.op (rsI c wr):Nat)
     ·rw[if_pos j8]at hST ⊢;rw[hST];exact⟨rfl,hr⟩
     ·rw[if_neg j8]at hST ⊢;unfold xK at hST;have U5:=hr.bl (wr 4).toNat (by have:=aeB hP;omega);have hv:(bD (c.f 3).toNat (d.sec (1+(wr 4).toNat))).1=S.lF (wr 4).toNat:=by rw[U5]
      rw[hv]at hST;have hne:∀k:Nat,cS (d.sec (bw (br c) (wr 0) (wr 1)))≠((wr 2).toNat,(wr 3).toNat,k):=fun k e=>by
       rw[hl]at e;injection e with e1 e2;injection e2 with e2 e3;exact j8 ⟨aj,aj⟩
      by_cases BJ:S.lF (wr 4).toNat=1000
      ·rw[if_pos BJ]at hST ⊢;have hw:=(bC.kF f0 f1 (bw (br c) (wr 0) (wr 1)) (bB [(wr 2).toNat,(wr 3).toNat,11])).1;rw[if_neg (fun h=>h hw)]at hST;have h2:(cY (br c) (c.f 3).toNat d wr t).2=(11,0):=by rw[hST]
       refine⟨h2,?_⟩;generalize cY (br c) (c.f 3).toNat d wr t=o at ho h2 h8
       cases ho with
       |down d' c=>exact absurd rfl h8
       |bad e h h0'=>injection h2 with h2 _;cases h2
       |was k h hl'=>exact absurd hl' (hne k)
       |full d' h ry hn hs ho' MV V6=>exact hr.full hP g0 hf.1 g1 hf.2.1 g3 g5 hs ho'
       |done d' h ry V6 v MV Jt ho'=>injection h2 with h2 _;cases h2
      ·rw[if_neg BJ]at hST ⊢;have hw:=bC.kF f0 f1 0 (uq (wr 0).toNat (wr 1).toNat (wr 2).toNat (wr 3).toNat (wr 4).toNat (S.lF (wr 4).toNat+1) t);rw[if_neg (fun h=>h hw.1)]at hST;have Z5:=(qj (sh:=br c) (wr:=wr) (t:=t) hw.2.2 hw.2.1 (S.lF (wr 4).toNat+1)).1;have h2:(cY (br c) (c.f 3).toNat d wr t).2=(0,0):=by rw[hST];show((0:Int),_)=_;rw[Z5]
       refine⟨h2,?_⟩;generalize cY (br c) (c.f 3).toNat d wr t=o at ho h2 h8
       cases ho with
       |down d' c=>exact absurd rfl h8
       |bad e h h0'=>injection h2 with _ h2;exact absurd h2 h0'
       |was k h hl'=>exact absurd hl' (hne k)
       |full d' h ry hn hs ho' MV V6=>exact absurd (hv.symm.trans MV) BJ
       |done d' h ry V6 v MV Jt ho'=>
        rw[hv]at MV;rw[MV]at ho' Jt;exact hr.done hP g0 hf.1 g1 hf.2.1 g3 g5 g6 hb ht Jt ho'
   ·have iQ:iT (br c) wr=false:=ago.trans (decide_eq_false hf);have hW:adO c S wr t.length=6:=by
     unfold adO;rw[if_neg (fun h=>h hb),if_neg (fun h=>h V6),if_pos hf]
    rw[hW,if_pos aE];unfold cY;rw[if_neg (fun h=>h ⟨g6,hb⟩),if_neg (fun h=>h ht),if_pos iQ];exact⟨rfl,hr⟩
  ·have hW:adO c S wr t.length=10:=by
    unfold adO;rw[if_neg (fun h=>h hb),if_pos aj]
   rw[hW,if_pos aE];unfold cY;rw[if_neg (fun h=>h ⟨g6,hb⟩),if_pos ht];exact⟨rfl,hr⟩
 ·have hW:adO c S wr t.length=9:=by
   unfold adO;rw[if_pos hb]
  rw[hW,if_pos aE];unfold cY;rw[if_pos (fun h=>hb h.2)];exact⟨rfl,hr⟩
end
structure RsA where
 sb:Nat
 vb:Nat
 vc:Nat
 db:Nat
 dc:Nat
 bb:Nat
 acS:Nat
 ob:Nat
 oc:Nat
 kb:Nat
 acT:Nat
 dv:Nat→Value
def rsC (c:aQ)(a:RsA):Array Value:=#[ah (c.f 2),ah (c.f 3),ah (c.f 0),ah (c.f 1),bp a.vb (nB c) a.vc,bp a.db (nB c) a.dc,bp a.bb (CF c) a.acS,bp a.ob (CF c) a.oc,bp a.kb (CF c) a.acT]
def RsW (a:RsA):Nat→Prop:=fun k=>k=a.vb∨k=a.db∨k=a.bb∨k=a.ob∨k=a.kb
def aef (n:Nat)(f:Nat→Nat):List Value:=AQ n fun i=>ah (f i:Nat)
theorem ad7 (n:Nat)(f:Nat→Nat):(aef n f).length=n:=sB ..
theorem afx (n:Nat)(f:Nat→Nat)(i x:Nat):(aef n f).set i (ah (x:Nat))=aef n (ba f i x):=by
 unfold aef;rw[zI]
 congr 1
 funext j
 unfold ba
 split<;>rfl
structure RsB (c:aQ)(a:RsA)(S:Cj)(w:World):Prop where
 ak:Box w a.sb 62 (rsC c a)
 acU:Row 3 w (bp a.vb (nB c) a.vc) (aef (nB c) S.lF)
 acV:Row 35 w (bp a.db (nB c) a.dc) (AQ (nB c) a.dv)
 acW:Row 3 w (bp a.bb (CF c) a.acS) (aef (CF c) S.Ck)
 acX:Row 3 w (bp a.ob (CF c) a.oc) (aef (CF c) S.op)
 acY:Row 3 w (bp a.kb (CF c) a.acT) (aef (CF c) S.cd)
 kz:∀b,b<nB c→kA w (a.dv b) (S.kz b)
 ne:a.vb≠a.bb∧a.vb≠a.ob∧a.vb≠a.kb∧a.bb≠a.ob∧a.bb≠a.kb∧a.ob≠a.kb
section
variable {c:aQ}{a:RsA}{S:Cj}{w w':World}{P:Nat→Prop}
theorem Row.aeW {e:TypeId}{g n cp:Nat}{xs:List Value}{i:Nat}{u:Value}(h:Row e w (bp g n cp) xs)(hi:xs[i]? =some u):aM w g i u∧w.frozen? ⟨g,i,none⟩=false:=by
 obtain⟨g',cc,e,h1,h2⟩:=h.cell hi;injection e with e;injection e with e;injection e with e;subst e;exact⟨h1,h2⟩
theorem aeh {n:Nat}{f:Nat→Nat}{i:Nat}(hi:i<n):(aef n f)[i]? =some (ah (f i:Nat)):=DO n _ hi
theorem RsB.acZ (h:RsB c a S w){b:Nat}(hb:b<nB c):aF w a.vb b (S.lF b:Nat)∧w.frozen? ⟨a.vb,b,none⟩=false:=h.acU.aeW (aeh hb)
theorem RsB.ac0 (h:RsB c a S w){b:Nat}(hb:b<nB c):aM w a.db b (a.dv b)∧w.frozen? ⟨a.db,b,none⟩=false:=h.acV.aeW (DO _ _ hb)
theorem RsB.ac1 (h:RsB c a S w){i:Nat}(hi:i<CF c):aF w a.bb i (S.Ck i:Nat)∧w.frozen? ⟨a.bb,i,none⟩=false:=h.acW.aeW (aeh hi)
theorem RsB.ac2 (h:RsB c a S w){i:Nat}(hi:i<CF c):aF w a.ob i (S.op i:Nat)∧w.frozen? ⟨a.ob,i,none⟩=false:=h.acX.aeW (aeh hi)
theorem RsB.ac3 (h:RsB c a S w){i:Nat}(hi:i<CF c):aF w a.kb i (S.cd i:Nat)∧w.frozen? ⟨a.kb,i,none⟩=false:=h.acY.aeW (aeh hi)
theorem RsB.Ns (h:RsB c a S w){k:Nat}(hk:RsW a k){t:TypeId}{cs:Array Value}(hb:Box w k t cs):t=3∨t=35:=by
 have hr:∀{e:TypeId} {g n cp:Nat} {xs:List Value},Row e w (bp g n cp) xs→k=g→t=e:=fun hr e=>by
  obtain⟨cs',h2⟩:=hr.ak (aD.2 rfl);rw[e]at hb;exact(hb.same h2).1
 rcases hk with e|e|e|e|e
 ·exact .inl (hr h.acU e)
 ·exact .inr (hr h.acV e)
 ·exact .inl (hr h.acW e)
 ·exact .inl (hr h.acX e)
 ·exact .inl (hr h.acY e)
theorem RsB.RW (h:RsB c a S w){k:Nat}(hk:RsW a k):k<w.heap.size:=by
 rcases hk with e|e|e|e|e
 ·exact h.acU.lt (aD.2 e.symm)
 ·exact h.acV.lt (aD.2 e.symm)
 ·exact h.acW.lt (aD.2 e.symm)
 ·exact h.acX.lt (aD.2 e.symm)
 ·exact h.acY.lt (aD.2 e.symm)
theorem RsB.off (h:RsB c a S w)(ho:af P w w')(hW:∀k,RsW a k→¬P k)(hs:¬P a.sb)(hd:∀b k,b<nB c→aJ (a.dv b) k→¬P k):RsB c a S w' where
 ak:=ho.ak h.ak hs
 acU:=h.acU.ar ho fun k hk=>hW k (.inl (aD.1 hk).symm)
 acV:=h.acV.ar ho fun k hk=>hW k (.inr (.inl (aD.1 hk).symm))
 acW:=h.acW.ar ho fun k hk=>hW k (.inr (.inr (.inl (aD.1 hk).symm)))
 acX:=h.acX.ar ho fun k hk=>hW k (.inr (.inr (.inr (.inl (aD.1 hk).symm))))
 acY:=h.acY.ar ho fun k hk=>hW k (.inr (.inr (.inr (.inr (aD.1 hk).symm))))
 kz:=fun b hb=>(h.kz b hb).ar ho fun k hk=>hd b k hb hk
 ne:=h.ne
theorem RsB.keep (h:RsB c a S w)(ho:af au w w'):RsB c a S w':=h.off ho (fun _ _=>id) id fun _ _ _ _=>id
theorem RsB.one (h:RsB c a S w){g i:Nat}{v:Value}(hg:g=a.vb∨g=a.bb∨g=a.ob∨g=a.kb):af (az g) w (w.setCell ⟨g,i,none⟩ v)∧Box (w.setCell ⟨g,i,none⟩ v) a.sb 62 (rsC c a)∧Row 35 (w.setCell ⟨g,i,none⟩ v) (bp a.db (nB c) a.dc) (AQ (nB c) a.dv)∧∀b,b<nB c→kA (w.setCell ⟨g,i,none⟩ v) (a.dv b) (S.kz b):=by
 have ho:af (az g) w (w.setCell ⟨g,i,none⟩ v):=(af.ai (az g) w).setCell (p:=⟨g,i,none⟩) (.inl (show az g g from rfl)) v;have hx:∃cs,Box w g 3 cs:=by
  rcases hg with e|e|e|e
  ·exact h.acU.ak (aD.2 e.symm)
  ·exact h.acW.ak (aD.2 e.symm)
  ·exact h.acX.ak (aD.2 e.symm)
  ·exact h.acY.ak (aD.2 e.symm)
 obtain⟨cs,hx⟩:=hx;refine⟨ho,ho.ak h.ak fun e=>?_,h.acV.ar ho fun k hk e=>?_,fun b hb=>(h.kz b hb).ar ho fun k hk e=>?_⟩
 ·have hb:=h.ak;rw[show a.sb=g from e]at hb;exact absurd (hx.same hb).1 aE
 ·obtain⟨c2,h2⟩:=h.acV.ak hk;rw[show k=g from e]at h2;exact absurd (hx.same h2).1 aE
 ·obtain⟨c2,h2⟩:=(h.kz b hb).1.ak hk;rw[show k=g from e]at h2;exact absurd (hx.same h2).1 aE
theorem Row.Bh {g n m cp i x:Nat}{f:Nat→Nat}(h:Row 3 w (bp g m cp) (aef n f))(hi:i<n):Row 3 (w.setCell ⟨g,i,none⟩ (ah (x:Nat))) (bp g m cp) (aef n (ba f i x)):=by
 have:=h.store (i:=i) (by rw[ad7];exact hi) (ah (x:Nat)) (aD.2 rfl);rwa [afx]at this
theorem Row.aeC {e:TypeId}{g g' n cp i:Nat}{v:Value}{xs:List Value}(h:Row e w (bp g n cp) xs)(hn:g'≠g):Row e (w.setCell ⟨g',i,none⟩ v) (bp g n cp) xs:=
 h.ar ((af.ai (az g') w).setCell (p:=⟨g',i,none⟩) (.inl (show az g' g' from rfl)) v) fun k hk e=>hn ((show k=g' from e).symm.trans (aD.1 hk).symm)
theorem RsB.ag7 (h:RsB c a S w){i x:Nat}(hi:i<nB c):RsB c a {S with lF:=ba S.lF i x} (w.setCell ⟨a.vb,i,none⟩ (ah (x:Nat))):=by
 obtain⟨h1,h2,h3,h4⟩:=h.one (g:=a.vb) (i:=i) (v:=ah (x:Nat)) (.inl rfl);obtain⟨n1,n2,n3,n4,n5,n6⟩:=h.ne;exact⟨h2,h.acU.Bh hi,h3,h.acW.aeC n1,h.acX.aeC n2,h.acY.aeC n3,h4,h.ne⟩
theorem RsB.aha (h:RsB c a S w){i x:Nat}(hi:i<CF c):RsB c a {S with Ck:=ba S.Ck i x} (w.setCell ⟨a.bb,i,none⟩ (ah (x:Nat))):=by
 obtain⟨h1,h2,h3,h4⟩:=h.one (g:=a.bb) (i:=i) (v:=ah (x:Nat)) (.inr (.inl rfl));obtain⟨n1,n2,n3,n4,n5,n6⟩:=h.ne;exact⟨h2,h.acU.aeC n1.symm,h3,h.acW.Bh hi,h.acX.aeC n4,h.acY.aeC n5,h4,h.ne⟩
theorem RsB.ag8 (h:RsB c a S w){i x:Nat}(hi:i<CF c):RsB c a {S with op:=ba S.op i x} (w.setCell ⟨a.ob,i,none⟩ (ah (x:Nat))):=by
 obtain⟨h1,h2,h3,h4⟩:=h.one (g:=a.ob) (i:=i) (v:=ah (x:Nat)) (.inr (.inr (.inl rfl)));obtain⟨n1,n2,n3,n4,n5,n6⟩:=h.ne;exact⟨h2,h.acU.aeC n2.symm,h3,h.acW.aeC n4.symm,h.acX.Bh hi,h.acY.aeC n6,h4,h.ne⟩
theorem RsB.agc (h:RsB c a S w){i x:Nat}(hi:i<CF c):RsB c a {S with cd:=ba S.cd i x} (w.setCell ⟨a.kb,i,none⟩ (ah (x:Nat))):=by
 obtain⟨h1,h2,h3,h4⟩:=h.one (g:=a.kb) (i:=i) (v:=ah (x:Nat)) (.inr (.inr (.inr rfl)));obtain⟨n1,n2,n3,n4,n5,n6⟩:=h.ne;exact⟨h2,h.acU.aeC n3.symm,h3,h.acW.aeC n5.symm,h.acX.aeC n6.symm,h.acY.Bh hi,h4,h.ne⟩
theorem RsB.ag9 (h:RsB c a S w){i:Nat}(hi:i<nB c){v:Value}{l:List Int}(hv:kA w v l):RsB c {a with dv:=ba a.dv i v} {S with kz:=ba S.kz i l} (w.setCell ⟨a.db,i,none⟩ v):=by
 have ho:af (az a.db) w (w.setCell ⟨a.db,i,none⟩ v):=(af.ai (az a.db) w).setCell (p:=⟨a.db,i,none⟩) (.inl (show az a.db a.db from rfl)) v;obtain⟨cs,hx⟩:=h.acV.ak (aD.2 rfl);have hn:∀{e:TypeId} {g n cp:Nat} {xs:List Value},Row e w (bp g n cp) xs→35≠e→a.db≠g:=fun hr hne e=>by
  obtain⟨cs',h2⟩:=hr.ak (aD.2 rfl);rw[←e]at h2;exact hne (hx.same h2).1
 have iq:∀{u:Value} {l:List Int},kA w u l→kA (w.setCell ⟨a.db,i,none⟩ v) u l:=fun hu=>hu.ar ho fun k hk e=>by
  obtain⟨cs',h2⟩:=hu.1.ak hk;rw[show k=a.db from e]at h2;exact absurd (hx.same h2).1 aE
 refine⟨ho.ak h.ak fun e=>?_,h.acU.aeC (hn h.acU aE),?_,h.acW.aeC (hn h.acW aE),h.acX.aeC (hn h.acX aE),h.acY.aeC (hn h.acY aE),fun b hb=>?_,h.ne⟩
 ·have hb:=h.ak;rw[show a.sb=a.db from e]at hb;exact absurd (hx.same hb).1 aE
 ·have:=h.acV.store (i:=i) (by rw[sB];exact hi) v (aD.2 rfl);rwa [zI]at this
 ·dsimp only;unfold ba
  by_cases e:b=i
  ·rw[if_pos e,if_pos e];exact iq hv
  ·rw[if_neg e,if_neg e];exact iq (h.kz b hb)
end
section
variable {c:aQ}{a:RsA}{S:Cj}{w:World}{wr:Nat→Int}{t:List Int}{A:Option Addr}{cp:Nat}
theorem ad0{P:Prop}(h:P:=by
 go_quiet (fail)
 go_wp2_with fail;go_ret;exact⟨by rw[HV.out];rfl,HO.trans (by repeat(first|exact af.ai _ _|refine af.drewN ?_ _))⟩):P:=h
theorem ad8{P:Prop}(h:P:=by
 go_quiet (fail)
 go_upto_region 3 with fail
 go_quiet (fail)
 go_upto_region 5 with fail
 go_quiet (fail)
 go_upto_region 7 with fail
 go_quiet (fail)
 go_upto_region 8 with fail;exact ad0):P:=h
theorem aew{P:Prop}(h:P:=by
 clear d1 d2 d3;exact ad8):P:=h
theorem ad1{P:Prop}(h:P:=by
 go_quiet (fail)
 go_upto_region 3 with fail
 go_quiet (fail)
 go_upto_region 5 with fail;exact ad0):P:=h
theorem afu (h:RsB c a S w)(hP:dp c)(hg:WrG wr):
 Calls Tryz.prog 104 #[aO a.sb,.agg (bP wr (.slice A t.length cp))] w fun e w'=>e= .returned (ah (adO c S wr t.length))∧af au w w':=by
 obtain⟨ac4,yP⟩:∃ac4,adO c S wr t.length=ac4:=⟨_,rfl⟩;rw[yP];have uX:=ae yP;clear yP;have HB:=ae<|Box.fresh w 110 (bP wr (.slice A t.length cp));have HO:=ae<|(af.ai au w).alloc (.cells (bP wr (.slice A t.length cp)) 110);have HS:=ae<|h.keep HO;have HP:=ae hP;have HG:=ae hg;clear h hP hg
 go_enter Tryz.func104,Tryz.ntmps104
 go_upto_region 1 with fail;change Code.wp _ _ _ _ (w.alloc (.cells (bP wr (.slice A t.length cp)) 110));generalize w.alloc (.cells (bP wr (.slice A t.length cp)) 110)=W1 at *;generalize w.heap.size=wb at *;have x0:aF W1 wb 0 (wr 0):=HB.ag rfl;have x1:aF W1 wb 1 (wr 1):=HB.ag rfl;have x2:aF W1 wb 2 (wr 2):=HB.ag rfl;have x3:aF W1 wb 3 (wr 3):=HB.ag rfl;have x4:aF W1 wb 4 (wr 4):=HB.ag rfl;have x5:aM W1 wb 5 (.slice A t.length cp):=HB.ag rfl;have y0:aF W1 a.sb 0 (c.f 2):=HS.ak.ag rfl;have y1:aF W1 a.sb 1 (c.f 3):=HS.ak.ag rfl;have y2:aF W1 a.sb 2 (c.f 0):=HS.ak.ag rfl;have y3:aF W1 a.sb 3 (c.f 1):=HS.ak.ag rfl;have b4:decide (wr 4<0)=false:=decide_eq_false (by have:=HG.2.2.2.2.2.2;omega);have hg:=HG.out;have b0:decide (wr 0<0)=false:=decide_eq_false (by have:=hg.1;omega);have b1:decide (wr 1<0)=false:=decide_eq_false (by have:=hg.2.1;omega);have ac5:decide (1099511627776<wr 2)=false:=decide_eq_false (by have:=hg.2.2.2.1;omega);have ac6:decide (1099511627776<wr 3)=false:=decide_eq_false (by have:=hg.2.2.2.2.2.1;omega);clear hg
 by_cases hb:wr 4<c.f 2
 ·have b5:decide (c.f 2≤wr 4)=false:=decide_eq_false aj
  by_cases hl:(t.length:Int)=c.f 3
  ·have ac7:((t.length:Int) != c.f 3)=false:=by rw[hl];simp
   have Ke:=ae hl;clear hl
   by_cases h0:wr 0<c.f 0
   ·have c0:decide (c.f 0≤wr 0)=false:=decide_eq_false aj
    by_cases h1:wr 1<c.f 1
    ·have c1:decide (c.f 1≤wr 1)=false:=decide_eq_false aj
     by_cases h2:1≤wr 2
     ·have c2:decide (wr 2<1)=false:=decide_eq_false aj
      by_cases h3:1≤wr 3
      ·have c3:decide (wr 3<1)=false:=decide_eq_false aj;obtain⟨e1,e2,e3⟩:=aeM HP HG.1 h0 HG.2.1 h1;have HW0:=aq (ac4=if wr 2<(S.Ck (rsI c wr):Nat)∨(wr 2=(S.Ck (rsI c wr):Nat)∧wr 3<(S.op (rsI c wr):Nat))then 12 else 0) (by rw[←uX.out];unfold adO;rw[if_neg (fun h=>h hb),if_neg (fun h=>h Ke.out),if_neg (fun h=>h ⟨h0,h1,h2,h3⟩)]);have hn:=aeV HP;have hp0:=HP.p0;have Jw:=HP.p1;have w1:IntKind.i64.wrap (wr 0*c.f 1)=wr 0*c.f 1:=by rw[IntKind.wrap_i64];have:=HG.2.1;omega
       have w2:IntKind.i64.wrap (wr 0*c.f 1+wr 1)=(rsI c wr:Nat):=by rw[IntKind.wrap_i64];omega
       have hii:((rsI c wr:Nat):Int)<(CF c:Nat):=aj;have z1:=(HS.ac1 e2).1;have z2:=(HS.ac2 e2).1;have y6:aM W1 a.sb 6 (bp a.bb (CF c) a.acS):=HS.ak.ag rfl;have y7:aM W1 a.sb 7 (bp a.ob (CF c) a.oc):=HS.ak.ag rfl;clear e1 e3 hn hp0 Jw h0 h1 h2 h3 hb;generalize rsI c wr=i at *;generalize S.Ck i=Ck at *;generalize S.op i=op at *
       by_cases d1:wr 2<(Ck:Int)
       ·have g1:decide (wr 2<(Ck:Int))=true:=decide_eq_true d1;have HV:=aq (ac4=12) (by rw[HW0.out,if_pos (.inl d1)]);clear d1;exact ad8
       ·have g1:decide (wr 2<(Ck:Int))=false:=decide_eq_false d1
        by_cases d2:wr 2=(Ck:Int)
        ·have g2:(wr 2==(Ck:Int))=true:=by rw[d2];simp
         by_cases d3:wr 3<(op:Int)
         ·have g3:decide (wr 3<(op:Int))=true:=decide_eq_true d3;have HV:=aq (ac4=12) (by rw[HW0.out,if_pos (.inr ⟨d2,d3⟩)]);exact aew
         ·have g3:decide (wr 3<(op:Int))=false:=decide_eq_false d3;have HV:=aq (ac4=0) (by rw[HW0.out,if_neg (fun h=>h.elim d1 fun h=>d3 h.2)]);exact aew
        ·have g2:(wr 2==(Ck:Int))=false:=by simpa using d2
         have HV:=aq (ac4=0) (by rw[HW0.out,if_neg (fun h=>h.elim d1 fun h=>d2 h.1)]);clear d1 d2;exact ad8
      ·have c3:decide (wr 3<1)=true:=decide_eq_true aj;have HV:=aq (ac4=6) (by rw[←uX.out];unfold adO;rw[if_neg (fun h=>h hb),if_neg (fun h=>h Ke.out),if_pos (fun h=>h3 h.2.2.2)]);clear h0 h1 h2 h3 hb;exact ad1
     ·have c2:decide (wr 2<1)=true:=decide_eq_true aj;have HV:=aq (ac4=6) (by rw[←uX.out];unfold adO;rw[if_neg (fun h=>h hb),if_neg (fun h=>h Ke.out),if_pos (fun h=>h2 h.2.2.1)]);clear h0 h1 h2 hb;exact ad1
    ·have c1:decide (c.f 1≤wr 1)=true:=decide_eq_true aj;have HV:=aq (ac4=6) (by rw[←uX.out];unfold adO;rw[if_neg (fun h=>h hb),if_neg (fun h=>h Ke.out),if_pos (fun h=>h1 h.2.1)]);clear h0 h1 hb;exact ad1
   ·have c0:decide (c.f 0≤wr 0)=true:=decide_eq_true aj;have HV:=aq (ac4=6) (by rw[←uX.out];unfold adO;rw[if_neg (fun h=>h hb),if_neg (fun h=>h Ke.out),if_pos (fun h=>h0 h.1)]);clear h0 hb;exact ad1
  ·have ac7:((t.length:Int) != c.f 3)=true:=by simpa using hl
   have HV:=aq (ac4=10) (by rw[←uX.out];unfold adO;rw[if_neg (fun h=>h hb),if_pos hl]);clear hb hl
   go_quiet (fail)
   go_upto_region 3 with fail;exact ad0
 ·have b5:decide (c.f 2≤wr 4)=true:=decide_eq_true aj;have HV:=aq (ac4=9) (by rw[←uX.out];unfold adO;rw[if_pos hb]);clear hb;exact ad0
end
theorem aeF {c:aQ}{S:Cj}{wr:Nat→Int}{n:Nat}(h:adO c S wr n=0):wr 4<c.f 2∧(n:Int)=c.f 3∧wr 0<c.f 0∧wr 1<c.f 1∧1≤wr 2∧1≤wr 3:=by
 unfold adO at h
 by_cases h1:wr 4<c.f 2
 ·rw[if_neg (fun e=>e h1)]at h
  by_cases h2:(n:Int)=c.f 3
  ·rw[if_neg (fun e=>e h2)]at h
   by_cases h3:wr 0<c.f 0∧wr 1<c.f 1∧1≤wr 2∧1≤wr 3
   ·exact⟨h1,h2,h3⟩
   ·rw[if_pos h3]at h;cases h
  ·rw[if_pos h2]at h;cases h
 ·rw[if_pos h1]at h;cases h
def agD (c:aQ)(a:RsA)(S':Cj)(code err:Int)(w:World)(e:Ending)(w':World):Prop:=
 e= .returned (.tuple #[ah code,ah err])∧∃dv,RsB c {a with dv:=dv} S' w'∧af (RsW a) w w'∧∀b k,aJ (dv b) k→aJ (a.dv b) k∨w.heap.size≤k
section
variable {c:aQ}{a:RsA}{S:Cj}{w:World}{wr:Nat→Int}{t:List Int}{A:Option Addr}{cp:Nat}
theorem ae2 {α:Type}(f:Nat→α)(i:Nat)(x y:α):ba (ba f i x) i y=ba f i y:=by
 funext j
 unfold ba
 split<;>rfl
theorem aey{P:Prop}(h:P:=by
 go_quiet (fail)
 go_wp2_with fail
 go_meet
 case rel=>exact⟨rfl,(af.ai au W3).drewN nq⟩):P:=h
theorem afv (h:RsB c a S w)(hP:dp c)(hg:WrG wr)(iq:cH w (.slice A t.length cp) t)(Gf:0<t.length→∀k,aJ (.slice A t.length cp) k→¬RsW a k)(Z8:∀b,b<nB c→S.lF b≤1000):
 Calls Tryz.prog 75 #[aO a.sb,.agg (bP wr (.slice A t.length cp))] w (agD c a (adX c S wr t).1 (adX c S wr t).2.1 (adX c S wr t).2.2 w):=by
 obtain⟨S',code,err,yP⟩:∃S' code err,adX c S wr t=(S',code,err):=⟨_,_,_,rfl⟩;rw[yP];have uX:=ae yP;clear yP;have HB:=ae<|Box.fresh w 110 (bP wr (.slice A t.length cp));have HO:=ae<|(af.ai au w).alloc (.cells (bP wr (.slice A t.length cp)) 110);have HS:=ae<|h.keep HO;have HP:=ae hP;have HG:=ae hg;have VB:=ae<|iq.ar HO fun _ _=>id;have uv:=ae Gf;have HVM:=ae Z8;have HLW:=ae<|fun k (hk:RsW a k)=>h.RW hk;clear h hP hg iq Gf Z8
 go_enter Tryz.func75,Tryz.ntmps75
 go_upto_region 1 with fail;change Code.wp _ _ _ _ (w.alloc (.cells (bP wr (.slice A t.length cp)) 110));have lh:=ae HO.size;generalize w.alloc (.cells (bP wr (.slice A t.length cp)) 110)=W1 at *;obtain⟨wb,Db⟩:∃wb,wb=w.heap.size:=⟨_,rfl⟩;rw[←Db]at HB ⊢;have HWN:=aq (¬RsW a wb) (fun e=>by have:=HLW.out wb e;omega);have rf:=aq (w.heap.size≤wb) (Nat.le_of_eq Db.symm);clear Db HLW;have hwg:=afu (A:=A) (t:=t) (cp:=cp) HS HP HG;obtain⟨ac4,hrw⟩:∃ac4,adO c S wr t.length=ac4:=⟨_,rfl⟩;rw[hrw]at hwg;have HWG:=ae hwg;have JG:=ae hrw;clear hwg hrw;go_upto_region 2 with(first|(refine iy (bP wr (.slice A t.length cp)) HB Tryz.underlying110 ?_)|(go_at_call 104;refine HWG.mono ?_;rintro e W2 ⟨rfl,bq⟩));have dG:=ae<|bq.ak HB id;have AG:=ae<|HS.keep bq;have bu:=ae<|HO.trans bq;have YQ:=ae<|VB.ar bq fun _ _=>id;clear bq HWG HB HS HO VB
 by_cases UM:ac4=0
 ·subst UM;obtain⟨U5,hlen,h0,h1,h2,h3⟩:=aeF JG;have hg:=HG.out;unfold WrG at hg;have RZ:adX c S wr t=if wr 2=(S.Ck (rsI c wr):Nat)∧wr 3=(S.op (rsI c wr):Nat)then(S,((S.cd (rsI c wr):Nat):Int),0)else if S.lF (wr 4).toNat=1000 then(aeN c S wr,11,0)else(aeH c S wr t,0,0):=by
   unfold adX;rw[if_neg (fun e=>e JG.out)]
  rw[uX.out]at RZ;unfold aeN aeH at RZ;obtain⟨e1,e2,e3⟩:=aeM HP hg.1 h0 hg.2.1 h1;have hn:=aeV HP;have R6:=aeB HP;have hp0:=HP.p0;have Jw:=HP.p1;have w1:IntKind.i64.wrap (wr 0*c.f 1)=wr 0*c.f 1:=by rw[IntKind.wrap_i64];omega
  have w2:IntKind.i64.wrap (wr 0*c.f 1+wr 1)=(rsI c wr:Nat):=by rw[IntKind.wrap_i64];omega
  have hii:((rsI c wr:Nat):Int)<(CF c:Nat):=aj;have cD:=aq ((t.length:Int)=c.f 3∧c.f 3≤16∧1≤c.f 3) (⟨hlen,HP.p3.2,HP.p3.1⟩);obtain⟨m2,wV⟩:∃m2:Nat,(wr 2).toNat=m2:=⟨_,rfl⟩;obtain⟨m3,Dd⟩:∃m3:Nat,(wr 3).toNat=m3:=⟨_,rfl⟩;obtain⟨b,hb⟩:∃b:Nat,(wr 4).toNat=b:=⟨_,rfl⟩;have f2:wr 2=(m2:Int):=aj;have f3:wr 3=(m3:Int):=aj;have f4:wr 4=(b:Int):=aj;have tZ:(b:Int)<(nB c:Nat):=aj;have qx:=ae (show b<nB c by omega);have x0:aF W2 wb 0 (wr 0):=dG.ag rfl;have x1:aF W2 wb 1 (wr 1):=dG.ag rfl;have x2:aF W2 wb 2 (wr 2):=dG.ag rfl;have x3:aF W2 wb 3 (wr 3):=dG.ag rfl;have y3:aF W2 a.sb 3 (c.f 1):=AG.ak.ag rfl;have y6:aM W2 a.sb 6 (bp a.bb (CF c) a.acS):=AG.ak.ag rfl;have y7:aM W2 a.sb 7 (bp a.ob (CF c) a.oc):=AG.ak.ag rfl;have z1:=(AG.ac1 e2).1;have z2:=(AG.ac2 e2).1;rw[f2]at x2;rw[f3]at x3;have HX4:=aq (∀W,af (RsW a) W2 W→aF W wb 2 ((m2:Nat):Int)∧aF W wb 3 ((m3:Nat):Int)∧aF W wb 4 ((b:Nat):Int)∧aM W wb 5 (.slice A t.length cp)) (fun W hW=>by
   have hb:=hW.ak dG HWN;rw[←f2,←f3,←f4];exact⟨hb.ag rfl,hb.ag rfl,hb.ag rfl,hb.ag rfl⟩)
  have HII:=ae e2;rw[wV,Dd,hb,f2,f3]at RZ;clear e1 e3 hn R6 hp0 Jw h0 h1 h2 h3 U5 hg hlen JG dG f2 f3 f4 wV Dd hb;generalize rsI c wr=i at *;have M4:∀W:World,RsB c a S W→aF W a.bb i ((S.Ck i:Nat):Int)∧aF W a.ob i ((S.op i:Nat):Int):=fun W hW=>⟨(hW.ac1 e2).1,(hW.ac2 e2).1⟩
  clear M4 e2;have HWR:=ae RZ;clear RZ;go_upto_region 4 with fail
  go_quiet (fail)
  have Se:af au W2 (W2.drewN nq):=(af.ai au W2).drewN nq;have Dq:=ae<|AG.keep Se;have bI:=ae<|bu.trans Se;have YP:=ae<|YQ.ar Se fun _ _=>id;have Vf:=aq (∀W,af (RsW a) (W2.drewN nq) W→_) (fun W hW=>HX4 W ((Se.mono (S':=RsW a) fun _ e=>e.elim).trans hW))
  replace x2:=(HX4 _ (Se.mono fun _ e=>e.elim)).1
  replace x3:=(HX4 _ (Se.mono fun _ e=>e.elim)).2.1
  replace y6:aM (W2.drewN nq) a.sb 6 (bp a.bb (CF c) a.acS):=Dq.ak.ag rfl
  replace y7:aM (W2.drewN nq) a.sb 7 (bp a.ob (CF c) a.oc):=Dq.ak.ag rfl
  replace z1:=(Dq.ac1 HII).1
  replace z2:=(Dq.ac2 HII).1
  clear x0 x1 y3 w1 w2 Se AG bu YQ HX4;generalize W2.drewN nq=W3 at *;go_upto_region 5 with fail
  by_cases j8:(m2:Int)=(S.Ck i:Nat)∧(m3:Int)=(S.op i:Nat)
  ·have HWV:=aq ((S',code,err)=(S,((S.cd i:Nat):Int),0)) (by rw[HWR.out,if_pos j8]);have y8:aM W3 a.sb 8 (bp a.kb (CF c) a.acT):=Dq.ak.ag rfl;have z3:=(Dq.ac3 HII).1;have g1:((m2:Int)==((S.Ck i:Nat):Int))=true:=by rw[j8.1];simp
   have g2:((m3:Int)==((S.op i:Nat):Int))=true:=by rw[j8.2];simp
   have g3:(m2==S.Ck i)=true:=by have:=j8.1;simp;omega
   have g4:(m3==S.op i)=true:=by have:=j8.2;simp;omega
   clear j8
   go_quiet (fail)
   go_wp2_with fail;go_ret2;have hv:=HWV.out;injection hv with v1 v2;injection v2 with v2 v3;rw[v1,v2,v3];exact⟨rfl,a.dv,Dq.keep ((af.ai au W3).drewN nq),((bI.trans ((af.ai au W3).drewN nq)).mono fun _ h=>h.elim),fun b k hk=>.inl hk⟩
  ·go_cut [46] (fun v wx=>v= .bool false∧af au W3 wx)
   case first=>
    by_cases d2:m2=S.Ck i
    ·have d3:¬m3=S.op i:=fun e=>j8 ⟨aj,aj⟩
     have g1:((m2:Int)==((S.Ck i:Nat):Int))=true:=by rw[d2];simp
     have g2:((m3:Int)==((S.op i:Nat):Int))=false:=by simp;omega
     have g3:(m2==S.Ck i)=true:=by simp;exact d2
     have g4:(m3==S.op i)=false:=by simp;exact d3
     clear d2 d3 j8;exact aey
    ·have g1:((m2:Int)==((S.Ck i:Nat):Int))=false:=by simp;omega
     have g3:(m2==S.Ck i)=false:=by simp;exact d2
     clear d2 j8;exact aey
   case rest=>
    obtain⟨rfl,hcut⟩:=hcut;have HWV:=aq ((S',code,err)=_) (HWR.trans (if_neg j8));have HS4:=ae<|Dq.keep hcut;have cr:=ae<|bI.trans hcut;have YO:=ae<|YP.ar hcut fun _ _=>id;have HX4:=aq (∀W,af (RsW a) wc W→_) (fun W hW=>Vf W ((hcut.mono (S':=RsW a) fun _ e=>e.elim).trans hW));clear hcut j8 x2 x3 y6 y7 z1 z2 Dq bI YP Vf;obtain⟨W4,hW4⟩:∃W4,W4=wc:=⟨_,rfl⟩;subst hW4;go_upto_region 7 with fail;have k1:aM W4.drew a.sb 6 (bp a.bb (CF c) a.acS):=HS4.ak.ag rfl;have k2:aF W4.drew wb 2 ((m2:Nat):Int):=(HX4 _ ((af.ai _ W4).drew)).1;have k3:aF W4.drew a.bb i ((S.Ck i:Nat):Int):=(HS4.ac1 HII).1;have k4:W4.drew.frozen? ⟨a.bb,i,none⟩=false:=(HS4.ac1 HII).2;refine gg (fun w':World=>aM w' a.sb 6 (bp a.bb (CF c) a.acS)∧aF w' wb 2 ((m2:Nat):Int)) 8 ?_ ?_
    ·first|assumption|and_intros<;>assumption
    intro aC;refine bE [0,1,2,3,4,5,6,7] ?_;refine dE ?_;clear aC;go_upto_region 8 with fail;have j5:af (RsW a) W4 (W4.drew.setCell ⟨a.bb,i,none⟩ (ah ((m2:Nat):Int))):=((af.ai (RsW a) W4).drew).setCell (p:=⟨a.bb,i,none⟩) (.inl (.inr (.inr (.inl rfl)))) _;have l9:=ae<|RsB.aha (x:=m2) (HS4.keep ((af.ai au W4).drew)) HII;have HX5:=aq (∀W,af (RsW a) (W4.drew.setCell ⟨a.bb,i,none⟩ (ah ((m2:Nat):Int))) W→_) (fun W hW=>HX4 W (j5.trans hW));have HJ5:=ae j5;change Code.wp _ _ _ _ (W4.drew.setCell ⟨a.bb,i,none⟩ (ah ((m2:Nat):Int)));clear k1 k2 k3 k4 j5;generalize W4.drew.setCell ⟨a.bb,i,none⟩ (ah ((m2:Nat):Int))=W5 at *;have k1:aM W5.drew a.sb 7 (bp a.ob (CF c) a.oc):=l9.ak.ag rfl;have k2:aF W5.drew wb 3 ((m3:Nat):Int):=(HX5 _ ((af.ai _ W5).drew)).2.1;have k3:aF W5.drew a.ob i ((S.op i:Nat):Int):=(l9.ac2 HII).1;have k4:W5.drew.frozen? ⟨a.ob,i,none⟩=false:=(l9.ac2 HII).2;refine gg (fun w':World=>aM w' a.sb 7 (bp a.ob (CF c) a.oc)∧aF w' wb 3 ((m3:Nat):Int)) 8 ?_ ?_
    ·first|assumption|and_intros<;>assumption
    intro aC;refine bE [0,1,2,3,4,5,6,7] ?_;refine dE ?_;clear aC;go_upto_region 9 with fail;have j6:af (RsW a) W5 (W5.drew.setCell ⟨a.ob,i,none⟩ (ah ((m3:Nat):Int))):=((af.ai (RsW a) W5).drew).setCell (p:=⟨a.ob,i,none⟩) (.inl (.inr (.inr (.inr (.inl rfl))))) _;have HS6:=ae<|RsB.ag8 (x:=m3) (l9.keep ((af.ai au W5).drew)) HII;have HX6:=aq (∀W,af (RsW a) (W5.drew.setCell ⟨a.ob,i,none⟩ (ah ((m3:Nat):Int))) W→_) (fun W hW=>HX5 W (j6.trans hW));have Vt:=ae<|HJ5.trans j6;change Code.wp _ _ _ _ (W5.drew.setCell ⟨a.ob,i,none⟩ (ah ((m3:Nat):Int)));clear k1 k2 k3 k4 j6 HJ5 HX5 l9;generalize W5.drew.setCell ⟨a.ob,i,none⟩ (ah ((m3:Nat):Int))=W6 at *;have k1:aM W6 a.sb 8 (bp a.kb (CF c) a.acT):=HS6.ak.ag rfl;have k3:aF W6 a.kb i ((S.cd i:Nat):Int):=(HS6.ac3 HII).1;have k4:W6.frozen? ⟨a.kb,i,none⟩=false:=(HS6.ac3 HII).2;go_upto_region 10 with fail;have j7:af (RsW a) W6 (W6.setCell ⟨a.kb,i,none⟩ (ah ((0:Nat):Int))):=((af.ai (RsW a) W6)).setCell (p:=⟨a.kb,i,none⟩) (.inl (.inr (.inr (.inr (.inr rfl))))) _;have HS7:=ae<|RsB.agc (x:=0) HS6 HII;have HX7:=aq (∀W,af (RsW a) (W6.setCell ⟨a.kb,i,none⟩ (ah ((0:Nat):Int))) W→_) (fun W hW=>HX6 W (j7.trans hW));have HJ7:=ae<|Vt.trans j7;change Code.wp _ _ _ _ (W6.setCell ⟨a.kb,i,none⟩ (ah ((0:Nat):Int)));clear k1 k3 k4 j7 Vt HX6 HS6;generalize W6.setCell ⟨a.kb,i,none⟩ (ah ((0:Nat):Int))=W7 at *;have k1:aM W7 a.sb 4 (bp a.vb (nB c) a.vc):=HS7.ak.ag rfl;have k2:aF W7 wb 4 ((b:Nat):Int):=(HX7 _ (af.ai _ W7)).2.2.1;have k3:aF W7 a.vb b ((S.lF b:Nat):Int):=(HS7.acZ qx).1
    by_cases BJ:S.lF b=1000
    ·have HWF:=ae<|HWV.trans (if_pos BJ);have g1:(((S.lF b:Nat):Int)==1000)=true:=by rw[BJ];rfl
     have g2:(S.lF b==1000)=true:=by rw[BJ];rfl
     clear BJ
     go_quiet (fail)
     have h78:af au W7 (W7.drewN nq):=(af.ai au W7).drewN nq;have HS8:=ae<|HS7.keep h78;have HJ8:=ae<|HJ7.aG h78 fun _ e=>e.elim;clear h78 k1 k2 k3 HS7 HJ7 HX7;generalize W7.drewN nq=W8 at *;have k1:aM W8 a.sb 8 (bp a.kb (CF c) a.acT):=HS8.ak.ag rfl;have k3:aF W8 a.kb i ((ba S.cd i 0 i:Nat):Int):=(HS8.ac3 HII).1;have k4:W8.frozen? ⟨a.kb,i,none⟩=false:=(HS8.ac3 HII).2;go_wp2_with fail;go_ret2;have hv:=HWF.out;injection hv with v1 v2;injection v2 with v2 v3;rw[v1,v2,v3];have h9:=RsB.agc (x:=11) HS8 HII;dsimp only at h9;rw[ae2]at h9;exact⟨rfl,a.dv,h9,(cr.mono (S':=RsW a) fun _ e=>e.elim).trans (HJ8.trans (((af.ai (RsW a) W8)).setCell (p:=⟨a.kb,i,none⟩) (.inl (.inr (.inr (.inr (.inr rfl))))) _)),fun b k hk=>.inl hk⟩
    ·have HWF:=ae<|HWV.trans (if_neg BJ);have g1:(((S.lF b:Nat):Int)==1000)=false:=by simp;omega
     have g2:(S.lF b==1000)=false:=by simp;exact BJ
     clear BJ
     go_quiet (fail)
     have h78:af au W7 (W7.drewN nq):=(af.ai au W7).drewN nq;have HS8:=ae<|HS7.keep h78;have HJ8:=ae<|HJ7.aG h78 fun _ e=>e.elim;have HX8:=aq (∀W,af (RsW a) (W7.drewN nq) W→_) (fun W hW=>HX7 W ((h78.mono (S':=RsW a) fun _ e=>e.elim).trans hW));clear h78 k1 k2 k3 HS7 HJ7 HX7;generalize W7.drewN nq=W8 at *;go_upto_region 13 with fail;obtain⟨vv,uB⟩:∃vv,S.lF b=vv:=⟨_,rfl⟩;have JD:=ae uB;have k1:aM W8.drew a.sb 4 (bp a.vb (nB c) a.vc):=HS8.ak.ag rfl;have k2:aF W8.drew wb 4 ((b:Nat):Int):=(HX8 _ ((af.ai _ W8).drew)).2.2.1;have k3:aF W8.drew a.vb b ((vv:Nat):Int):=by rw[←uB];exact(HS8.acZ qx).1
     have k4:W8.drew.frozen? ⟨a.vb,b,none⟩=false:=(HS8.acZ qx).2;have HVL:=ae (show vv≤1000 by have:=HVM.out b qx.out;omega);have ac8:IntKind.i64.wrap ((vv:Int)+1)=(vv:Int)+1:=by rw[IntKind.wrap_i64];have:=HVL.out;omega
     clear uB;refine gg (fun w':World=>aM w' a.sb 4 (bp a.vb (nB c) a.vc)∧aF w' wb 4 ((b:Nat):Int)∧aF w' a.vb b ((vv:Nat):Int)) 10 ?_ ?_
     ·first|assumption|and_intros<;>assumption
     intro aC;refine bE [0,1,2,3,4,5,6,7,8,9] ?_;refine dE ?_;clear aC;go_upto_region 14 with fail;have ac9:af (RsW a) W8 (W8.drew.setCell ⟨a.vb,b,none⟩ (ah ((vv+1:Nat):Int))):=((af.ai (RsW a) W8).drew).setCell (p:=⟨a.vb,b,none⟩) (.inl (.inl rfl)) _;have HS9:=ae<|RsB.ag7 (x:=vv+1) (HS8.keep ((af.ai au W8).drew)) qx;have Xb:=aq (∀W,af (RsW a) (W8.drew.setCell ⟨a.vb,b,none⟩ (ah ((vv+1:Nat):Int))) W→_) (fun W hW=>HX8 W (ac9.trans hW));have HJ9:=ae<|HJ8.trans ac9;change Code.wp _ _ _ _ (W8.drew.setCell ⟨a.vb,b,none⟩ (ah ((vv+1:Nat):Int)));clear k1 k2 k3 k4 ac9 HJ8 HX8 HS8 ac8;generalize W8.drew.setCell ⟨a.vb,b,none⟩ (ah ((vv+1:Nat):Int))=W9 at *;have hl1:0<t.length:=by have:=cD.out;omega
     have agu:cH W9 (.slice A t.length cp) t:=YO.ar HJ9 fun k hk=>uv hl1 k hk
     have iD:Src W9 A (bytes t):=by
      obtain⟨A',c',e,_,_,h⟩:=agu;injection e with e1 _ _;subst e1;exact h
     have QZ:=ae iD;have b8:=ae (show([]:List Value).length+(bytes t).length≤maxLen by rw[qD];have:=cD.out;unfold maxLen;simp;omega);have dG:=ae (show(([]:List Value).length+(bytes t).length)*1≤140737488355328 by rw[qD];have:=cD.out;simp;omega);have x5:aM W9 wb 5 (.slice A t.length cp):=(Xb _ (af.ai _ W9)).2.2.2;clear hl1 agu iD;go_upto_region 16 with(at_builtin;refine bA _ rfl (.tmp 101) (.tmp 103) 35 5 rfl fC rfl Tryz.underlying35 aT [] rfl (Row.lJ _ _) A t.length cp (bytes t) rfl (by rw[qD]) QZ (qK t) b8 dG ?_;intro v' sf kJ bq AX _;have fX:=ae kJ;have Bx:=ae<|bq.mono (S':=au) fun j hj=>(bo hj).elim;have HK2:=ae AX;clear kJ bq AX);rw[List.nil_append]at fX;have km:kA sf v' t:=⟨fX,by have:=cD.out;omega⟩;obtain⟨A2,c2,e2⟩:=km.shape;subst e2;have dt:=ae km;have afD:=ae<|HS9.keep Bx;clear km x5;have k1:aM sf.drew a.sb 5 (bp a.db (nB c) a.dc):=afD.ak.ag rfl;have k2:aF sf.drew wb 4 ((b:Nat):Int):=(Xb _ ((Bx.mono (S':=RsW a) fun _ e=>e.elim).drew)).2.2.1;have k3:aM sf.drew a.db b (a.dv b):=(afD.ac0 qx).1;have k4:sf.drew.frozen? ⟨a.db,b,none⟩=false:=(afD.ac0 qx).2;refine gg (fun w':World=>aM w' a.sb 5 (bp a.db (nB c) a.dc)∧aF w' wb 4 ((b:Nat):Int)) 8 ?_ ?_
     ·first|assumption|and_intros<;>assumption
     intro aC;refine bE [0,1,2,3,4,5,6,7] ?_;refine dE ?_;clear aC;go_wp2_with fail;go_ret2;have hv:=HWF.out;rw[JD.out]at hv;injection hv with v1 v2;injection v2 with v2 v3;rw[v1,v2,v3];have h11:=RsB.ag9 (afD.keep ((af.ai au sf).drew)) qx (dt.keep ((af.ai au sf).drew));have hJ:af (RsW a) w (sf.drew.setCell ⟨a.db,b,none⟩ (.slice A2 t.length c2)):=((cr.mono (S':=RsW a) fun _ e=>e.elim).trans (HJ9.trans ((Bx.mono (S':=RsW a) fun _ e=>e.elim).drew))).setCell (p:=⟨a.db,b,none⟩) (.inl (.inr (.inl rfl))) _;refine⟨rfl,_,h11,hJ,fun b' k hk=>?_⟩;unfold ba at hk
     by_cases e:b'=b
     ·rw[if_pos e]at hk;rcases HK2 k hk with h|h
      ·exact(bo h).elim
      ·have h1:=cr.size;have h2:=HJ9.size;exact .inr aj
     ·rw[if_neg e]at hk;exact .inl hk
 ·have RZ:adX c S wr t=(S,0,ac4):=by
   unfold adX;rw[JG.out,if_pos UM]
  rw[uX.out]at RZ;injection RZ with v1 v2;injection v2 with v2 v3;have HV:=aq (S'=S∧code=0∧err=ac4) (⟨v1,v2,v3⟩);have km:(ac4 != 0)=true:=by simpa using UM
  clear v1 v2 v3 UM;go_wp2_with fail;go_ret2;obtain⟨v1,v2,v3⟩:=HV.out;rw[v1,v2,v3];exact⟨rfl,a.dv,AG,bu.mono fun _ h=>h.elim,fun b k hk=>.inl hk⟩
end
def rsN (c:aQ)(v:Nat→Value):Array Value:=#[ah (c.f 2),ah (c.f 3),ah (c.f 0),ah (c.f 1),v 4,v 5,v 6,v 7,v 8]
theorem aeZ (c:aQ):Tryz.prog.built 62 [(0,ah (c.f 2)),(1,ah (c.f 3)),(2,ah (c.f 0)),(3,ah (c.f 1))]=some (rsN c fun _=>aT):=by kernel_rfl
def RnF (j:Nat):Prop:=j=4∨j=6∨j=7∨j=8
instance (j:Nat):Decidable (RnF j):=by unfold RnF;infer_instance
theorem ae7 (c:aQ)(v:Nat→Value){j:Nat}(hj:RnF j∨j=5)(u:Value):(rsN c v).setIfInBounds j u=rsN c (ba v j u):=by
 unfold RnF at hj;rcases(show j=4∨j=5∨j=6∨j=7∨j=8 by omega)with rfl|rfl|rfl|rfl|rfl<;>simp[rsN,ba]
structure RnB (c:aQ)(w:World)(sb:Nat)(v:Nat→Value)(n:Nat→Nat)(dv:Nat→Value)(wr:World):Prop where
 ak:Box wr sb 62 (rsN c v)
 ada:∀j,RnF j→Row 3 wr (v j) (aef (n j) fun _=>0)
 rd:Row 35 wr (v 5) (AQ (n 5) dv)
 kz:∀b,b<n 5→kA wr (dv b) (List.replicate (c.f 3).toNat 0)∧∀g,aJ (dv b) g→w.heap.size≤g
 own:∀j g,(RnF j∨j=5)→aJ (v j) g→w.heap.size≤g
 ne:∀i j g,RnF i→RnF j→i≠j→aJ (v i) g→¬aJ (v j) g
 sbw:w.heap.size≤sb
 o:af au w wr
section
variable {c:aQ}{w wr w2:World}{sb:Nat}{v:Nat→Value}{n:Nat→Nat}{dv:Nat→Value}
theorem Box.cell0 (h:Box w sb 62 (rsN c v)){j:Nat}(hj:4≤j∧j≤8):aM w sb j (v j):=by
 refine h.ag ?_;rcases(show j=4∨j=5∨j=6∨j=7∨j=8 by omega)with rfl|rfl|rfl|rfl|rfl<;>rfl
theorem RnB.fc (h:RnB c w sb v n dv wr){j:Nat}(h1:4≤j)(h2:j≤8):aM wr sb j (v j):=h.ak.cell0 ⟨h1,h2⟩
theorem RnB.ty (h:RnB c w sb v n dv wr)(j:Nat)(hj:RnF j∨j=5){g:Nat}(hg:aJ (v j) g):∃t cs,Box wr g t cs∧((RnF j∧t=3)∨(j=5∧t=35)):=by
 rcases hj with hj|hj
 ·obtain⟨cs,h2⟩:=(h.ada j hj).ak hg;exact⟨_,cs,h2,.inl ⟨hj,rfl⟩⟩
 ·subst hj;obtain⟨cs,h2⟩:=h.rd.ak hg;exact⟨_,cs,h2,.inr ⟨rfl,rfl⟩⟩
theorem RnB.nb (h:RnB c w sb v n dv wr)(j:Nat)(hj:RnF j∨j=5):¬aJ (v j) sb:=fun e=>by
 obtain⟨t,cs,h2,h3⟩:=h.ty j hj e;have h4:=(h2.same h.ak).1;rcases h3 with⟨_,h3⟩|⟨_,h3⟩<;>rw[h3]at h4<;>exact absurd h4 aE
theorem RnB.app (h:RnB c w sb v n dv wr){j:Nat}(hj:RnF j){ob:Obj}{v':Value}(hr:Row 3 w2 v' (aef (n j) (fun _=>0) ++ [ah 0]))(ho:af (aJ (v j)) (wr.alloc ob) w2)(hk:∀k,aJ v' k→aJ (v j) k∨(wr.alloc ob).heap.size≤k):
 RnB c w sb (ba v j v') (ba n j (n j+1)) dv (w2.setCell ⟨sb,j,none⟩ v'):=by
 have hsz:(wr.alloc ob).heap.size=wr.heap.size+1:=World.size_alloc ..;have hj5:j≠5:=fun e=>by subst e;exact absurd hj aE
 have ha:af (aJ (v j)) wr w2:=(((af.ai au wr).alloc ob).mono (S':=aJ (v j)) fun _ e=>e.elim).trans ho;have hs:af (az sb) w2 (w2.setCell ⟨sb,j,none⟩ v'):=(af.ai (az sb) w2).setCell (p:=⟨sb,j,none⟩) (.inl (show az sb sb from rfl)) _;have ez:=ha.ak h.ak (h.nb j (.inl hj));have hbs:=ez.store j v';rw[ae7 c v (.inl hj)]at hbs;have aY:∀i g,RnF i∨i=5→aJ (v i) g→g<wr.heap.size:=fun i g hi hg=>by
  obtain⟨t,cs,h2,_⟩:=h.ty i hi hg;exact h2.lt
 have hsn:∀{e:TypeId} {u:Value} {xs:List Value},Row e w2 u xs→62≠e→Row e (w2.setCell ⟨sb,j,none⟩ v') u xs:=fun hu hne=>hu.ar hs fun g hg e=>by
  obtain⟨cs,h2⟩:=hu.ak hg;rw[show g=sb from e]at h2;exact hne (ez.same h2).1
 refine⟨hbs,fun i hi=>?_,?_,fun b hb=>?_,fun i g hi hg=>?_,fun i k g hi hk' hne hg hg'=>?_,h.sbw,?_⟩
 ·unfold ba
  by_cases e:i=j
  ·subst e;rw[if_pos rfl,if_pos rfl];have e2:aef (n i) (fun _=>0) ++ [Value.int .i64 0]=aef (n i+1) (fun _=>0):=by
    unfold aef AQ;rw[List.range_succ,List.map_append];rfl
   rw[←e2];exact hsn hr aE
  ·rw[if_neg e,if_neg e];exact hsn ((h.ada i hi).ar ha fun g hg hg'=>h.ne i j g hi hj e hg hg') aE
 ·unfold ba;rw[if_neg (fun e=>hj5 e.symm),if_neg (fun e=>hj5 e.symm)];refine hsn (h.rd.ar ha fun g hg hg'=>?_) aE;obtain⟨t,cs,h2,h3⟩:=h.ty j (.inl hj) hg';obtain⟨cs',h4⟩:=h.rd.ak hg;have h5:=(h2.same h4).1;rcases h3 with⟨_,h3⟩|⟨h3,_⟩
  ·rw[h3]at h5;exact absurd h5 aE
  ·exact hj5 h3
 ·have hb:b<n 5:=by unfold ba at hb;rwa [if_neg (fun e=>hj5 e.symm)]at hb
  obtain⟨h1,h2⟩:=h.kz b hb;refine⟨⟨hsn (h1.1.ar ha fun g hg hg'=>?_) aE,h1.2⟩,h2⟩;obtain⟨t,cs,h3,h4⟩:=h.ty j (.inl hj) hg';obtain⟨cs',h5⟩:=h1.1.ak hg;have h6:=(h3.same h5).1;rcases h4 with⟨_,h4⟩|⟨_,h4⟩<;>rw[h4]at h6<;>exact absurd h6 aE
 ·unfold ba at hg
  by_cases e:i=j
  ·rw[if_pos e]at hg;rcases hk g hg with e2|e2
   ·exact h.own j g (.inl hj) e2
   ·have:=h.o.size;omega
  ·rw[if_neg e]at hg;exact h.own i g hi hg
 ·unfold ba at hg hg'
  by_cases e:i=j
  ·rw[if_pos e]at hg;rw[if_neg (fun e2=>hne (e.trans e2.symm))]at hg';rcases hk g hg with e2|e2
   ·exact h.ne j k g hj hk' (fun e3=>hne (e.trans e3)) e2 hg'
   ·have:=aY k g (.inl hk') hg';omega
  ·rw[if_neg e]at hg
   by_cases e':k=j
   ·rw[if_pos e']at hg';rcases hk g hg' with e2|e2
    ·exact h.ne i j g hi hj e hg e2
    ·have:=aY i g (.inl hi) hg;omega
   ·rw[if_neg e']at hg';exact h.ne i k g hi hk' hne hg hg'
 ·exact(h.o.aG ha fun g hg=>.inr (h.own j g (.inl hj) hg)).setCell (p:=⟨sb,j,none⟩) (.inr h.sbw) _
theorem RnB.ahf (h:RnB c w sb v n dv wr){W:World}{u v':Value}{ob:Obj}(hW:af au wr W)(hu:Row 5 W u (bytes (List.replicate (c.f 3).toNat 0))∧(c.f 3).toNat≤1000000∧∀g,aJ u g→wr.heap.size≤g)(hr:Row 35 w2 v' (AQ (n 5) dv ++ [u]))(ho:af (aJ (v 5)) (W.alloc ob) w2)(hk:∀k,aJ v' k→aJ (v 5) k∨(W.alloc ob).heap.size≤k):
 RnB c w sb (ba v 5 v') (ba n 5 (n 5+1)) (ba dv (n 5) u) (w2.setCell ⟨sb,5,none⟩ v'):=by
 have hsz:(W.alloc ob).heap.size=W.heap.size+1:=World.size_alloc ..;have hws:=hW.size;have hWa:af (aJ (v 5)) W w2:=(((af.ai au W).alloc ob).mono (S':=aJ (v 5)) fun _ e=>e.elim).trans ho;have ha:af (aJ (v 5)) wr w2:=(hW.mono (S':=aJ (v 5)) fun _ e=>e.elim).trans hWa;have hs:af (az sb) w2 (w2.setCell ⟨sb,5,none⟩ v'):=(af.ai (az sb) w2).setCell (p:=⟨sb,5,none⟩) (.inl (show az sb sb from rfl)) _;have ez:=ha.ak h.ak (h.nb 5 (.inr rfl));have hbs:=ez.store 5 v';rw[ae7 c v (.inr rfl)]at hbs;have hsn:∀{e:TypeId} {u:Value} {xs:List Value},Row e w2 u xs→62≠e→Row e (w2.setCell ⟨sb,5,none⟩ v') u xs:=fun hu hne=>hu.ar hs fun g hg e=>by
  obtain⟨cs,h2⟩:=hu.ak hg;rw[show g=sb from e]at h2;exact hne (ez.same h2).1
 have h5:∀{e:TypeId} {g:Nat} {cs:Array Value},Box wr g e cs→35≠e→¬aJ (v 5) g:=fun hb hne hg=>by
  obtain⟨cs',h2⟩:=h.rd.ak hg;exact hne (h2.same hb).1
 have hle:∀g,aJ v' g→w.heap.size≤g:=fun g hg=>by
  rcases hk g hg with e2|e2
  ·exact h.own 5 g (.inr rfl) e2
  ·have:=h.o.size;omega
 refine⟨hbs,fun i hi=>?_,?_,fun b hb=>?_,fun i g hi hg=>?_,fun i k g hi hk' hne hg hg'=>?_,h.sbw,?_⟩
 ·unfold ba;have e:i≠5:=fun e=>by subst e;exact absurd hi aE
  rw[if_neg e,if_neg e];refine hsn ((h.ada i hi).ar ha fun g hg hg'=>?_) aE;obtain⟨cs,h2⟩:=(h.ada i hi).ak hg;exact h5 h2 aE hg'
 ·have e2:AQ (n 5+1) (ba dv (n 5) u)=AQ (n 5) dv ++ [u]:=by
   unfold AQ;rw[List.range_succ,List.map_append]
   congr 1
   ·refine List.map_congr_left fun k hk=>?_
    have:=List.mem_range.1 hk;unfold ba;rw[if_neg aj]
   ·show[ba dv (n 5) u (n 5)]= [u]
    unfold ba;rw[if_pos rfl]
  show Row 35 _ (ba v 5 v' 5) (AQ (ba n 5 (n 5+1) 5) (ba dv (n 5) u))
  rw[show ba v 5 v' 5=v' by unfold ba;rw[if_pos rfl],show ba n 5 (n 5+1) 5=n 5+1 by unfold ba;rw[if_pos rfl],e2];exact hsn hr aE
 ·have hb:b<n 5+1:=by unfold ba at hb;rwa [if_pos rfl]at hb
  unfold ba
  by_cases e:b=n 5
  ·rw[if_pos e];refine⟨⟨hsn (hu.1.ar hWa fun g hg hg'=>?_) aE,by rw[List.length_replicate];exact hu.2.1⟩,fun g hg=>by have:=hu.2.2 g hg;have:=h.o.size;omega⟩;obtain⟨cs,h2⟩:=h.rd.ak hg';have:=h2.lt;have:=hu.2.2 g hg;omega
  ·rw[if_neg e];obtain⟨h1,h2⟩:=h.kz b aj;refine⟨⟨hsn (h1.1.ar ha fun g hg hg'=>?_) aE,h1.2⟩,h2⟩;obtain⟨cs,h3⟩:=h1.1.ak hg;exact h5 h3 aE hg'
 ·unfold ba at hg
  by_cases e:i=5
  ·rw[if_pos e]at hg;exact hle g hg
  ·rw[if_neg e]at hg;exact h.own i g hi hg
 ·unfold ba at hg hg';rw[if_neg (fun e=>by subst e;exact absurd hi aE)]at hg;rw[if_neg (fun e=>by subst e;exact absurd hk' aE)]at hg';exact h.ne i k g hi hk' hne hg hg'
 ·exact(h.o.aG ha fun g hg=>.inr (h.own 5 g (.inr rfl) hg)).setCell (p:=⟨sb,5,none⟩) (.inr h.sbw) _
end
def rs0 (c:aQ):Cj:=⟨fun _=>0,fun _=>List.replicate (c.f 3).toNat 0,fun _=>0,fun _=>0,fun _=>0⟩
def ag3 (c:aQ)(w:World)(e:Ending)(w':World):Prop:=
 ∃a,e= .returned (aO a.sb)∧RsB c a (rs0 c) w'∧(∀k,RsW a k∨k=a.sb→w.heap.size≤k)∧(∀b k,b<nB c→aJ (a.dv b) k→w.heap.size≤k)∧af au w w'
def agF (c:aQ)(w:World)(sb:Nat)(iv:Value)(wr:World):Prop:=
 ∃(k:Nat) (v:Nat→Value) (n:Nat→Nat) (dv:Nat→Value),k≤nB c∧iv=ah k∧(n 4=k∧n 5=k∧n 6=0∧n 7=0∧n 8=0)∧RnB c w sb v n dv wr
def agE (c:aQ)(w:World)(sb:Nat)(iv:Value)(wr:World):Prop:=
 ∃(k:Nat) (v:Nat→Value) (n:Nat→Nat) (dv:Nat→Value),k≤CF c∧iv=ah k∧(n 4=nB c∧n 5=nB c∧n 6=k∧n 7=k∧n 8=k)∧RnB c w sb v n dv wr
theorem aeD {α:Type}(f:Nat→α)(i:Nat)(x:α):ba f i x i=x:=by unfold ba;rw[if_pos rfl]
theorem aeg {α:Type}(f:Nat→α){i j:Nat}(x:α)(h:j≠i):ba f i x j=f j:=by unfold ba;rw[if_neg h]
section
theorem aeb{P:Prop}(h:P:=by
 go_wp2_with fail
 go_roundw
 case rel=>(repeat first|exact Ss|(refine⟨Ss,?_⟩;(repeat(first|exact rfl|refine⟨rfl,?_⟩)))|apply Exists.intro)
 case measure=>simp[intOf];have:=cD.out;omega):P:=h
theorem adZ{P:Prop}(h:P:=by
 first|exact HR.fc aE aE|exact k6|exact k7|exact k8):P:=h
theorem ad4{P:Prop}(h:P:=by rw[ad7];simp[maxLen];have:=HN.out;omega):P:=h
theorem ad6{P:Prop}(h:P:=by rw[ad7];simp;have:=HN.out;omega):P:=h
theorem ad3{P:Prop}(h:P:=by have:=Vs.out;omega):P:=h
theorem af8 {c:aQ}(hP:dp c)(w:World):Calls Tryz.prog 41 #[ah (c.f 2),ah (c.f 3),ah (c.f 0),ah (c.f 1)] w (ag3 c w):=by
 have HP:=ae hP;have JK:=ae<|aeB hP;have HNS:=ae<|aeV hP;have ez:=aeZ c;have w1:IntKind.i64.wrap (c.f 0*c.f 1)=(CF c:Nat):=by rw[IntKind.wrap_i64];have:=aeV hP;omega
 have e2:c.f 2=(nB c:Nat):=(aeB hP).1.symm;have Fq:=ae e2;clear hP e2
 go_enter Tryz.func41,Tryz.ntmps41
 go_upto_region 2 with(refine du rfl _ _ rfl [(0,ah (c.f 2)),(1,ah (c.f 3)),(2,ah (c.f 0)),(3,ah (c.f 1))] _ (by simp[Act.eval]) (aeZ c) ?_);have HR0:=ae (show RnB c w w.heap.size (fun _=>aT) (fun _=>0) (fun _=>aT) (w.alloc (.cells (rsN c fun _=>aT) 62))from
  ⟨Box.fresh w 62 _,fun j _=>Row.lJ _ _,Row.lJ _ _,fun b hb=>absurd hb (Nat.not_lt_zero _),fun j g _ hg=>(bo hg).elim,fun i j g _ _ _ hg=>(bo hg).elim,dX _,(af.ai au w).alloc _⟩)
 change Code.wp _ _ _ _ (w.alloc (.cells (rsN c fun _=>aT) 62));generalize w.alloc (.cells (rsN c fun _=>aT) 62)=W1 at *;obtain⟨sb,R2⟩:∃sb,sb=w.heap.size:=⟨_,rfl⟩;rw[←R2]at HR0 ⊢;clear ez R2;go_wp2_with fail
 go_loopw [10] (fun iv wr=>agF c w sb iv wr) (fun iv _=>nB c - (intOf iv).toNat)
 case atStart=>exact⟨0,_,_,_,fH _,rfl,⟨rfl,rfl,rfl,rfl,rfl⟩,HR0⟩
 case round=>
  clear HR0;obtain⟨k,v,n,dv,hk,rfl,hn,hR⟩:=hrel;have HR:=ae hR;have Vs:=ae (show k<33∧nB c<33 by have:=JK.out;omega);have HN:=aq ((n 4=k∧n 5=k∧n 6=0∧n 7=0∧n 8=0)∧k<33∧nB c<33) (⟨hn,Vs⟩);clear hR hn
  by_cases aY:k<nB c
  ·have jk:(k:Int)<c.f 2:=by have:=Fq.out;omega
   have aft:(k:Int)<1000:=by have:=Vs.out;omega
   have cD:=ae aY;clear aY hk;go_upto_region 5 with fail;have x4:aM wr sb 4 (v 4):=HR.fc aE aE;go_upto_region 6 with(at_builtin;refine bA _ rfl (.tmp 27) (.tmp 28) 47 3 rfl gp rfl Tryz.underlying47 (v 4) (aef (n 4) fun _=>0) rfl ((HR.ada 4 aE).ar ((af.ai au wr).alloc _) fun _ _=>id) (some ⟨wr.heap.size,0,none⟩) 1 1 [ah 0] rfl rfl (kg wr _ _) aU ad4 ad6 ?_;intro adb w2 kJ bq Jx _;obtain⟨A2,c2,e2,_,_⟩:=kJ.shape;rw[show(aef (n 4) (fun _=>0) ++ [Value.int .i64 0]).length=n 4+1 by simp[ad7]]at e2;subst e2;have dG:=ae<|bq.ak (((af.ai au wr).alloc (.cells #[ah 0] 3)).ak HR.ak id) (HR.nb 4 aE);have z3:=dG.cell0 (j:=4) aE;have zf:=dG.free 4;have Sr:=ae<|HR.app (j:=4) aE kJ bq Jx;clear kJ bq Jx);have hex:∃v' n',(n' 4=n 4+1∧∀i,i≠4→n' i=n i)∧RnB c w sb v' n' dv (w2.setCell ⟨sb,4,none⟩ (.slice A2 (n 4+1) c2)):=⟨_,_,⟨aeD _ _ _,fun i hi=>aeg _ _ hi⟩,Sr⟩;change Code.wp _ _ _ _ (w2.setCell ⟨sb,4,none⟩ (.slice A2 (n 4+1) c2));clear x4 z3 zf dG HR Sr;generalize w2.setCell ⟨sb,4,none⟩ (.slice A2 (n 4+1) c2)=W4 at *;obtain⟨v1,n1,hn,hR⟩:=hex;have HR:=ae hR;have pH:=HN.out;clear HN;have HN:=aq (_∧_∧_∧_∧_) (⟨hn.1,hn.2 5 aE,hn.2 6 aE,hn.2 7 aE,hn.2 8 aE⟩);have jc:=HN.out;clear hR hn;clear HN;have HN:=aq ((n1 4=k+1∧n1 5=k∧n1 6=0∧n1 7=0∧n1 8=0)∧k<33∧nB c<33) ad3;clear pH jc;have x5:aM W4 sb 5 (v1 5):=HR.fc aE aE;have e3:c.f 3=((c.f 3).toNat:Nat):=by have:=HP.p3;omega
   have ks:=ae e3;have tc:∀w,(Instr.makeSlice 35 (ah (c.f 3)) (ah (c.f 3))).run Tryz.prog w= .ok (bp w.heap.size (c.f 3).toNat (c.f 3).toNat) (w.alloc (.cells (madeCells #[.int .u8 0] (c.f 3).toNat) 5)):=fun w=>by
    have h:=run_make_row' (P:=Tryz.prog) 35 5 _ 1 Tryz.underlying35 fC rfl .i64 .i64 (c.f 3).toNat (by have:=HP.p3;omega) (by have:=HP.p3;omega) w;rw[←e3]at h;exact h
   clear e3;refine gg (fun w':World=>aM w' sb 5 (v1 5)) 11 ?_ ?_
   ·exact adZ
   intro aC;refine bE [0,1,2,3,4,5] ?_;refine cX 6 fun Kc hK=>?_
   go_simp;have h6:af au W4 (W4.drew.alloc (.cells (madeCells #[.int .u8 0] (c.f 3).toNat) 5)):=((af.ai au W4).drew).alloc _;have Nh:=aq (Row 5 _ _ _∧(c.f 3).toNat≤1000000∧∀g,aJ (bp W4.drew.heap.size (c.f 3).toNat (c.f 3).toNat) g→W4.heap.size≤g) (⟨Ex W4.drew (c.f 3).toNat (by have:=HP.p3;omega),by have:=HP.p3;omega,fun g hg=>by rw[aD]at hg;rw[←hg];exact dX W4.heap.size⟩);have HZ6:=ae h6;have k6:=h6.cell x5 id;clear h6;refine dy hK ?_ fun aC=>?_
   ·exact adZ
   clear hK;refine cX 7 fun Kc hK=>?_
   go_simp;have HQ7:=ae<|HZ6.alloc (.cells #[bp W4.drew.heap.size (c.f 3).toNat (c.f 3).toNat] 35);have k7:=HQ7.cell x5 id;have afQ:=(HR.rd).ar HQ7 fun _ _=>id
   have afp:=kg (W4.drew.alloc (.cells (madeCells #[.int .u8 0] (c.f 3).toNat) 5)) (bp W4.drew.heap.size (c.f 3).toNat (c.f 3).toNat) 35;rw[show(W4.drew.alloc (.cells (madeCells #[.int .u8 0] (c.f 3).toNat) 5)).heap.size=W4.heap.size+1 from World.size_alloc ..]at afp;have Q1:=ae (show(AQ (n1 5) dv).length+ [Value.slice (some ⟨W4.drew.heap.size,0,none⟩) (c.f 3).toNat (c.f 3).toNat].length≤maxLen by rw[sB];simp[maxLen];have:=HN.out;omega);have ade:=ae (show((AQ (n1 5) dv).length+ [Value.slice (some ⟨W4.drew.heap.size,0,none⟩) (c.f 3).toNat (c.f 3).toNat].length)*24≤140737488355328 by rw[sB];simp;have:=HN.out;omega);refine dy hK ?_ fun aC=>?_
   ·exact adZ
   clear hK;refine cX 8 fun Kc hK=>?_
   refine JS _ (by rfl) _ _ 60 35 (by rfl) Qh (by rfl) Tryz.underlying60 (v1 5) (AQ (n1 5) dv) (by rfl) afQ (some ⟨W4.heap.size+1,0,none⟩) 1 1 [bp W4.drew.heap.size (c.f 3).toNat (c.f 3).toNat] (by rfl) rfl afp aU Q1.out ade.out ?_;intro v2 w2 kJ bq Jx _;obtain⟨A2,c2,e2,_,_⟩:=kJ.shape;rw[show(AQ (n1 5) dv ++ [Value.slice (some ⟨W4.drew.heap.size,0,none⟩) (c.f 3).toNat (c.f 3).toNat]).length=n1 5+1 by simp[sB]]at e2;subst e2;have dG:=ae<|bq.ak (HQ7.ak HR.ak id) (HR.nb 5 aE);have Sr:=ae<|HR.ahf HZ6 Nh kJ bq Jx;have k8:aM w2 sb 5 (v1 5):=dG.cell0 (j:=5) aE;clear kJ bq Jx afQ afp;refine dy hK ?_ fun aC=>?_
   ·exact adZ
   clear hK;refine bE [9,10] ?_;refine dE ?_;have zf:=dG.free 5;clear aC;go_upto_region 4 with fail;have hR:=Sr.out;change Code.wp _ _ _ _ (w2.setCell ⟨sb,5,none⟩ (.slice A2 (n1 5+1) c2));clear k8 zf dG HR Sr x5 tc;generalize w2.setCell ⟨sb,5,none⟩ (.slice A2 (n1 5+1) c2)=W5 at *;have Ss:=aq (agF c w sb (ah ((k:Int)+1)) W5) (⟨k+1,_,_,_,cD,by simp,⟨(aeg _ _ aE).trans HN.1.1,by rw[aeD];have:=HN.1.2.1;omega,(aeg _ _ aE).trans HN.1.2.2.1,(aeg _ _ aE).trans HN.1.2.2.2.1,(aeg _ _ aE).trans HN.1.2.2.2.2⟩,hR⟩);clear hR;exact aeb
  ·obtain rfl:k=nB c:=aj;have jk:¬((nB c:Nat):Int)<c.f 2:=by have:=Fq.out;omega
   have HR0:=ae HR;clear aY hk HR;go_upto_region 7 with fail;clear jk;go_upto_region 8 with fail
   go_loopw [11] (fun iv wr=>agE c w sb iv wr) (fun iv _=>CF c - (intOf iv).toNat)
   case atStart=>exact⟨0,_,_,_,fH _,rfl,HN.1,HR0⟩
   case round=>
    clear HR0 HN Vs;obtain⟨k,v,n,dv,hk,rfl,hn,hR⟩:=hrel;have HR:=ae hR;have Vs:=ae (show k<33∧nB c<33 by have:=JK.out;have:=HNS.out;omega);have HN:=aq ((n 4=nB c∧n 5=nB c∧n 6=k∧n 7=k∧n 8=k)∧k<33∧nB c<33) (⟨hn,Vs⟩);clear hR hn
    by_cases aY:k<CF c
    ·have jk:(k:Int)<(CF c:Nat):=aj;have aft:(k:Int)<1000:=by have:=Vs.out;omega
     have cD:=ae aY;clear aY hk;go_upto_region 10 with fail;have x6:aM wr sb 6 (v 6):=HR.fc aE aE;go_upto_region 11 with(at_builtin;refine bA _ rfl (.tmp 54) (.tmp 55) 47 3 rfl gp rfl Tryz.underlying47 (v 6) (aef (n 6) fun _=>0) rfl ((HR.ada 6 aE).ar ((af.ai au wr).alloc _) fun _ _=>id) (some ⟨wr.heap.size,0,none⟩) 1 1 [ah 0] rfl rfl (kg wr _ _) aU ad4 ad6 ?_;intro adb w2 kJ bq Jx _;obtain⟨A2,c2,e2,_,_⟩:=kJ.shape;rw[show(aef (n 6) (fun _=>0) ++ [Value.int .i64 0]).length=n 6+1 by simp[ad7]]at e2;subst e2;have dG:=ae<|bq.ak (((af.ai au wr).alloc (.cells #[ah 0] 3)).ak HR.ak id) (HR.nb 6 aE);have z3:=dG.cell0 (j:=6) aE;have zf:=dG.free 6;have Sr:=ae<|HR.app (j:=6) aE kJ bq Jx;clear kJ bq Jx);have hex:∃v' n',(n' 6=n 6+1∧∀i,i≠6→n' i=n i)∧RnB c w sb v' n' dv (w2.setCell ⟨sb,6,none⟩ (.slice A2 (n 6+1) c2)):=⟨_,_,⟨aeD _ _ _,fun i hi=>aeg _ _ hi⟩,Sr⟩;change Code.wp _ _ _ _ (w2.setCell ⟨sb,6,none⟩ (.slice A2 (n 6+1) c2));clear x6 z3 zf dG HR Sr;generalize w2.setCell ⟨sb,6,none⟩ (.slice A2 (n 6+1) c2)=W4 at *;obtain⟨v1,n1,hn,hR⟩:=hex;have HR:=ae hR;have pH:=HN.out;clear HN;have HN:=aq (_∧_∧_∧_∧_) (⟨hn.1,hn.2 4 aE,hn.2 5 aE,hn.2 7 aE,hn.2 8 aE⟩);have jc:=HN.out;clear hR hn;clear HN;have HN:=aq ((n1 4=nB c∧n1 5=nB c∧n1 6=k+1∧n1 7=k∧n1 8=k)∧k<33∧nB c<33) ad3;clear pH jc;have x7:aM W4 sb 7 (v1 7):=HR.fc aE aE;go_upto_region 12 with(at_builtin;refine bA _ rfl (.tmp 63) (.tmp 64) 47 3 rfl gp rfl Tryz.underlying47 (v1 7) (aef (n1 7) fun _=>0) rfl ((HR.ada 7 aE).ar ((af.ai au W4).alloc _) fun _ _=>id) (some ⟨W4.heap.size,0,none⟩) 1 1 [ah 0] rfl rfl (kg W4 _ _) aU ad4 ad6 ?_;intro adb w2 kJ bq Jx _;obtain⟨A2,c2,e2,_,_⟩:=kJ.shape;rw[show(aef (n1 7) (fun _=>0) ++ [Value.int .i64 0]).length=n1 7+1 by simp[ad7]]at e2;subst e2;have dG:=ae<|bq.ak (((af.ai au W4).alloc (.cells #[ah 0] 3)).ak HR.ak id) (HR.nb 7 aE);have z3:=dG.cell0 (j:=7) aE;have zf:=dG.free 7;have Sr:=ae<|HR.app (j:=7) aE kJ bq Jx;clear kJ bq Jx);have hex:∃v' n',(n' 7=n1 7+1∧∀i,i≠7→n' i=n1 i)∧RnB c w sb v' n' dv (w2.setCell ⟨sb,7,none⟩ (.slice A2 (n1 7+1) c2)):=⟨_,_,⟨aeD _ _ _,fun i hi=>aeg _ _ hi⟩,Sr⟩;change Code.wp _ _ _ _ (w2.setCell ⟨sb,7,none⟩ (.slice A2 (n1 7+1) c2));clear x7 z3 zf dG HR Sr;generalize w2.setCell ⟨sb,7,none⟩ (.slice A2 (n1 7+1) c2)=W5 at *;obtain⟨v2,n2,hn,hR⟩:=hex;have HR:=ae hR;have pH:=HN.out;clear HN;have HN:=aq (_∧_∧_∧_∧_) (⟨hn.1,hn.2 4 aE,hn.2 5 aE,hn.2 6 aE,hn.2 8 aE⟩);have jc:=HN.out;clear hR hn;clear HN;have HN:=aq ((n2 4=nB c∧n2 5=nB c∧n2 6=k+1∧n2 7=k+1∧n2 8=k)∧k<33∧nB c<33) ad3;clear pH jc;have x8:aM W5 sb 8 (v2 8):=HR.fc aE aE;go_upto_region 9 with(at_builtin;refine bA _ rfl (.tmp 72) (.tmp 73) 47 3 rfl gp rfl Tryz.underlying47 (v2 8) (aef (n2 8) fun _=>0) rfl ((HR.ada 8 aE).ar ((af.ai au W5).alloc _) fun _ _=>id) (some ⟨W5.heap.size,0,none⟩) 1 1 [ah 0] rfl rfl (kg W5 _ _) aU ad4 ad6 ?_;intro adb w2 kJ bq Jx _;obtain⟨A2,c2,e2,_,_⟩:=kJ.shape;rw[show(aef (n2 8) (fun _=>0) ++ [Value.int .i64 0]).length=n2 8+1 by simp[ad7]]at e2;subst e2;have dG:=ae<|bq.ak (((af.ai au W5).alloc (.cells #[ah 0] 3)).ak HR.ak id) (HR.nb 8 aE);have z3:=dG.cell0 (j:=8) aE;have zf:=dG.free 8;have Sr:=ae<|HR.app (j:=8) aE kJ bq Jx;clear kJ bq Jx)
     have hex:∃v' n',(n' 8=n2 8+1∧∀i,i≠8→n' i=n2 i)∧RnB c w sb v' n' dv (w2.setCell ⟨sb,8,none⟩ (.slice A2 (n2 8+1) c2)):=⟨_,_,⟨aeD _ _ _,fun i hi=>aeg _ _ hi⟩,Sr⟩;change Code.wp _ _ _ _ (w2.setCell ⟨sb,8,none⟩ (.slice A2 (n2 8+1) c2));clear x8 z3 zf dG HR Sr;generalize w2.setCell ⟨sb,8,none⟩ (.slice A2 (n2 8+1) c2)=W6 at *;obtain⟨v3,n3,hn,hR⟩:=hex;have HR:=ae hR;have pH:=HN.out;clear HN;have HN:=aq (_∧_∧_∧_∧_) (⟨hn.1,hn.2 4 aE,hn.2 5 aE,hn.2 6 aE,hn.2 7 aE⟩);have jc:=HN.out;clear hR hn;clear HN;have HN:=aq ((n3 4=nB c∧n3 5=nB c∧n3 6=k+1∧n3 7=k+1∧n3 8=k+1)∧k<33∧nB c<33) ad3;clear pH jc;have Ss:=aq (agE c w sb (ah ((k:Int)+1)) W6) (⟨k+1,_,_,_,cD,by simp,HN.1,HR⟩);exact aeb
    ·obtain rfl:k=CF c:=aj;clear aY hk;go_wp2_with fail;go_ret;have hR:=HR.out;obtain⟨h4,h5,h6,h7,h8⟩:=HN.1;have r4:=hR.ada 4 aE;have r6:=hR.ada 6 aE;have adf:=hR.ada 7 aE;have adg:=hR.ada 8 aE;have r5:=hR.rd;rw[h4]at r4;rw[h5]at r5;rw[h6]at r6;rw[h7]at adf;rw[h8]at adg;have ei:=JK.2.1;have wU:=HNS.2.1;obtain⟨g4,c4,e4,_⟩:=r4.cell (aeh (i:=0) ei);obtain⟨g5,c5,e5,_⟩:=r5.cell (DO (i:=0) _ _ ei);obtain⟨g6,c6,e6,_⟩:=r6.cell (aeh (i:=0) wU);obtain⟨g7,c7,e7,_⟩:=adf.cell (aeh (i:=0) wU);obtain⟨g8,c8,e8,_⟩:=adg.cell (aeh (i:=0) wU);rw[ad7]at e4 e6 e7 e8;rw[sB]at e5;have adh:aJ (v 4) g4:=by rw[e4];exact aD.2 rfl
     have o5:aJ (v 5) g5:=by rw[e5];exact aD.2 rfl
     have adi:aJ (v 6) g6:=by rw[e6];exact aD.2 rfl
     have o7:aJ (v 7) g7:=by rw[e7];exact aD.2 rfl
     have adj:aJ (v 8) g8:=by rw[e8];exact aD.2 rfl
     have py:=hR.ak;have e9:rsN c v=rsC c ⟨sb,g4,c4,g5,c5,g6,c6,g7,c7,g8,c8,dv⟩:=by unfold rsN rsC;rw[e4,e5,e6,e7,e8]
     rw[e9]at py;rw[e4]at r4;rw[e5]at r5;rw[e6]at r6;rw[e7]at adf;rw[e8]at adg;refine⟨⟨sb,g4,c4,g5,c5,g6,c6,g7,c7,g8,c8,dv⟩,rfl,⟨py,r4,r5,r6,adf,adg,fun b hb=>(hR.kz b (by rw[h5];exact hb)).1,?_⟩,fun k hk=>?_,fun b k hb hk=>(hR.kz b (by rw[h5];exact hb)).2 k hk,hR.o⟩
     ·have nn:∀i j gi adk,RnF i→RnF j→i≠j→aJ (v i) gi→aJ (v j) adk→gi≠adk:=fun i j gi adk hi hj hne h1 h2 e=>hR.ne i j gi hi hj hne h1 (e▸h2)
      exact⟨nn 4 6 _ _ aE aE aE adh adi,nn 4 7 _ _ aE aE aE adh o7,nn 4 8 _ _ aE aE aE adh adj,nn 6 7 _ _ aE aE aE adi o7,nn 6 8 _ _ aE aE aE adi adj,nn 7 8 _ _ aE aE aE o7 adj⟩
     ·rcases hk with(hk|hk|hk|hk|hk)|hk
      ·rw[show k=g4 from hk];exact hR.own 4 g4 (.inl aE) adh
      ·rw[show k=g5 from hk];exact hR.own 5 g5 (.inr rfl) o5
      ·rw[show k=g6 from hk];exact hR.own 6 g6 (.inl aE) adi
      ·rw[show k=g7 from hk];exact hR.own 7 g7 (.inl aE) o7
      ·rw[show k=g8 from hk];exact hR.own 8 g8 (.inl aE) adj
      ·rw[show k=sb from hk];exact hR.sbw
end
section
variable {σ:Type}{sp:pQ σ}{c:aQ}{M:AM σ}{b lev:Int}{t:List Int}
def xn (c:aQ)(M:AM σ):Prop:=∀b l,M.D b=some l→0≤b∧b<c.f 2∧l=(ec c M b).2
def GV (c:aQ)(M:AM σ):Prop:=M.down=true∨(M.d.down=false∧xn c M)
theorem DY (hP:dp c)(h4:c.f 4≠2)(h0:0≤b)(h1:b<c.f 2):cg c 2 b lev=true:=by
 have h5:c.f 5=0:=hP.pp.resolve_right h4;unfold cg;rw[if_neg (by rw[h5];decide),h5];simp[h0,h1]
theorem wo {n:Nat}(h0:0≤b)(h1:b<c.f 2)(hn:(n:Int)=c.f 3)(ht:cg c 2 b lev=true):dF c 2 b n lev=0:=by
 unfold dF pT;rw[if_neg (by simp[h0,h1]),if_neg (by simp[hn]),if_neg (by simp[ht])]
theorem DR:(dz sp c M b t lev).d=M.d∧(dz sp c M b t lev).down=M.down:=by
 unfold dz;split<;>exact⟨rfl,rfl⟩
theorem zT:(dC sp M b).d=M.d∧(dC sp M b).down=M.down:=by
 unfold dC;split<;>exact⟨rfl,rfl⟩
theorem sK:(bU sp c M b t lev).d=M.d∧(bU sp c M b t lev).down=M.down:=by
 unfold bU;split
 ·exact DR
 ·exact zT
theorem DS {y:Int}{l:List Int}(h:(dz sp c M b t lev).D y=some l):(y=b∧l=t∧dF c 2 b t.length lev=0)∨(M.D y=some l∧(dF c 2 b t.length lev=0→y≠b)):=by
 unfold dz at h
 split at h
 ·rename_i h0;exact .inr ⟨h,fun e=>absurd e h0⟩
 ·rename_i h0
  have h0:dF c 2 b t.length lev=0:=aj;have h:aV (if(sp.add M.s b).2.2=true then aV M.D (sp.add M.s b).2.1 none else M.D) b (some t) y=some l:=h;unfold aV at h
  split at h
  ·rename_i e;injection h with h;exact .inl ⟨e,h.symm,h0⟩
  ·rename_i e
   refine .inr ⟨?_,fun _=>e⟩
   split at h
   ·have h:(if y=(sp.add M.s b).2.1 then none else M.D y)=some l:=h
    split at h
    ·cases h
    ·exact h
   ·exact h
theorem zU {y:Int}{l:List Int}(h:(dC sp M b).D y=some l):M.D y=some l∧y≠b:=by
 unfold dC at h
 split at h
 ·have h:aV M.D b none y=some l:=h;unfold aV at h
  split at h
  ·cases h
  ·rename_i e;exact⟨h,e⟩
 ·rename_i hn
  refine⟨h,fun e=>hn ?_⟩;rw[←e,h];rfl
theorem F8 (hP:dp c)(h0:0≤b)(h1:b<c.f 2)(ht:(t.length:Int)=c.f 3){y:Int}{l:List Int}(h:(bU sp c M b t lev).D y=some l):(y=b∧l=t)∨(M.D y=some l∧y≠b):=by
 unfold bU at h
 split at h
 ·rename_i hk
  have hz:dF c 2 b t.length lev=0:=wo h0 h1 ht (by
   by_cases h4:c.f 4=2
   ·exact(hk.resolve_left fun e=>e h4).2
   ·exact DY hP h4 h0 h1)
  rcases DS h with⟨e1,e2,_⟩|⟨e1,e2⟩
  ·exact .inl ⟨e1,e2⟩
  ·exact .inr ⟨e1,e2 hz⟩
 ·exact .inr (zU h)
theorem xn.keep (hP:dp c)(h:xn c M)(h0:0≤b)(h1:b<c.f 2)(ht:t=(ec c M b).2):xn c (bU sp c M b t lev):=by
 have hl:(t.length:Int)=c.f 3:=by rw[ht,ec,lZ];have:=hP.p3;omega
 intro y l hy;have e:ec c (bU sp c M b t lev) y=ec c M y:=by unfold ec;rw[sK.1]
 rw[e];rcases F8 hP h0 h1 hl hy with⟨e1,e2⟩|⟨e1,_⟩
 ·rw[e1,e2];exact⟨h0,h1,ht⟩
 ·exact h y l e1
theorem J5.blk {size:Nat}{d:bC}{wr:Nat→Int}{t:List Int}{sh:Nat→Int}(hp:Fc sh)(hz:size≤16){o:bC×Int×Int}(h:J5 sh size d wr t o)(h8:o.2.2≠8):
 (o.2.2=0∧0≤wr 4∧wr 4<sh 0∧t.length=size∧o.2.1=0∧(bD size (o.1.sec (1+(wr 4).toNat)))=((bD size (d.sec (1+(wr 4).toNat))).1+1,t)∧∀b:Nat,(b:Int)<sh 0→b≠(wr 4).toNat→o.1.sec (1+b)=d.sec (1+b))∨
 (∀b:Nat,(b:Int)<sh 0→o.1.sec (1+b)=d.sec (1+b)):=by
 cases h with
 |down d' c=>exact absurd rfl h8
 |bad e h h0=>exact .inr fun _ _=>rfl
 |was k h hl=>exact .inr fun _ _=>rfl
 |full d' h hb hn hs ho hv ht=>
  obtain⟨f0,f1,f2,f3,_⟩:=ig h;have hg:=(vH hp f0 f1 f2 f3).2.2;exact .inr fun b h1=>ho _ fun e=>hg b h1 e.symm
 |done d' h hb ht v hv Jt ho=>
  obtain⟨f0,f1,f2,f3,_⟩:=ig h;have hg:=(vH hp f0 f1 f2 f3).2.2;refine .inl ⟨rfl,hb.1,hb.2,ht,rfl,?_,fun b h1 h2=>ho.ot _ aj aj fun e=>hg b h1 e.symm⟩;rw[ho.bl,Je aj ht hz,hv]
theorem J5.dn {size:Nat}{d:bC}{wr:Nat→Int}{t:List Int}{sh:Nat→Int}{o:bC×Int×Int}(h:J5 sh size d wr t o)(h8:o.2.2≠8)(h0:d.down=false):o.1.down=false:=by
 cases h with
 |down d' c=>exact absurd rfl h8
 |bad e h h0'=>exact h0
 |was k h hl=>exact h0
 |full d' h hb hn hs ho hv ht=>exact hn
 |done d' h hb ht v hv Jt ho=>exact ho.dn
end
end Go.Proofs.YtpcfhbeakecihaaGreat

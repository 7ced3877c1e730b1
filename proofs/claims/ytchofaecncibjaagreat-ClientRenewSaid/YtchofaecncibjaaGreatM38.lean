/- Lemmas. -/
import Derived.Test.YtchofaecncibjaaGreatM32
import Derived.Test.YtchofaecncibjaaGreatM37
set_option linter.all false
set_option maxHeartbeats 20000000
set_option maxRecDepth 100000
namespace Go.Proofs.YtchofaecncibjaaGreat
open Go.ChangeShapes Go.RowKit Go.WideShapes
structure Ga where
 pb:Nat
 lv:Value
 ob:Nat
 A:Option Addr
 c:Nat
 t:Nat
 B:Nat
def aeS (j:Ga)(n:Nat):Array Value:=#[.slice j.A n j.c,aU j.ob (n*4) (n*4),ah ((j.t+1:Nat):Int),j.lv]
structure jF (j:Ga)(l:List aS)(O:Nat→Nat→Int)(qv:Nat→Value)(S:Nat→List Int)(w:World):Prop where
 aq:Box w j.pb 171 (aeS j l.length)
 row:Row 61 w j.lv (Gi l.length qv)
 q:∀i,i<l.length→aF 3 w j.B (qv i) (S i)
 bw:aW w j.A l.length j.c l
 prt:Box w j.ob 3 (od l.length O)
 t3:j.t<3
 X9:j.pb<j.B
 wz:∀k,aK j.lv k→k<j.B
 Zq:j.ob<j.B
 UY:0<l.length→∀k o,j.A=some ⟨k,o,none⟩→k<j.B∧¬aK j.lv k
 bs:j.B≤w.heap.size
def Z4 (j:Ga)(n:Nat):Nat→Prop:=fun k=>k=j.pb∨aK j.lv k∨k=j.ob∨(0<n∧∃o,j.A=some ⟨k,o,none⟩)
def JN (j:Ga)(l:List aS)(O:Nat→Nat→Int)(S:Nat→List Int)(w:World):Prop:=∃qv,jF j l O qv S w
theorem aW.off {F:Nat→Prop}{w w':World}{A:Option Addr}{n c:Nat}{l:List aS}(h:aW w A n c l)(ho:ag F w w')(hF:0<l.length→∀k o,A=some ⟨k,o,none⟩→¬F k):aW w' A n c l:=
 ⟨h.len,h.cap,h.max,fun i hi=>by
  obtain⟨g,o,e,hg,h0,h1,h2,h3⟩:=h.at_ i hi;have hn:=hF ao g o e;exact⟨g,o,e,Nat.lt_of_lt_of_le hg ho.size,ho.cell h0 hn,ho.cell h1 hn,ho.cell h2 hn,ho.cell h3 hn⟩⟩
theorem aW.blk {w:World}{A:Option Addr}{n c:Nat}{l:List aS}(h:aW w A n c l)(h0:0<l.length){k o:Nat}(e:A=some ⟨k,o,none⟩):k<w.heap.size:=by
 obtain⟨g,o',e',hg,_⟩:=h.at_ 0 h0;rw[e]at e';injection e' with e';injection e' with e1;subst e1;exact hg
section
variable {j:Ga}{l:List aS}{O:Nat→Nat→Int}{qv:Nat→Value}{S S':Nat→List Int}{w w':World}
theorem jF.off {F:Nat→Prop}(h:jF j l O qv S w)(ho:ag F w w')(hF:∀k,Z4 j l.length k→¬F k)(hB:∀k,j.B≤k→k<w.heap.size→¬F k):jF j l O qv S w':=
 ⟨ho.aq h.aq (hF _ (.inl rfl)),h.row.aA ho fun k hk=>hF k (.inr (.inl hk)),fun i hi=>(h.q i hi).aA ho fun g hg=>hB g ((h.q i hi).lt g hg).1 ((h.q i hi).lt g hg).2,
  h.bw.off ho fun h0 k o e=>hF k (.inr (.inr (.inr ⟨h0,o,e⟩))),ho.aq h.prt (hF _ (.inr (.inr (.inl rfl)))),h.t3,h.X9,h.wz,h.Zq,h.UY,Nat.le_trans h.bs ho.size⟩
theorem jF.ltF (h:jF j l O qv S w){k:Nat}(hk:Z4 j l.length k):k<j.B:=by
 rcases hk with rfl|hk|rfl|⟨h0,o,e⟩
 ·exact h.X9
 ·exact h.wz k hk
 ·exact h.Zq
 ·exact(h.UY h0 k o e).1
theorem jF.keep (h:jF j l O qv S w)(ho:ag az w w'):jF j l O qv S w':=h.off ho (fun _ _=>id) fun _ _ _=>id
theorem jF.congr (h:jF j l O qv S w)(hS:∀i,i<l.length→S i=S' i):jF j l O qv S' w:=
 ⟨h.aq,h.row,fun i hi=>hS i hi▸h.q i hi,h.bw,h.prt,h.t3,h.X9,h.wz,h.Zq,h.UY,h.bs⟩
theorem jF.c0 (h:jF j l O qv S w):aE w j.pb 0 (.slice j.A l.length j.c):=h.aq.af rfl
theorem jF.c1 (h:jF j l O qv S w):aE w j.pb 1 (aU j.ob (l.length*4) (l.length*4)):=h.aq.af rfl
theorem jF.c2 (h:jF j l O qv S w):aw w j.pb 2 ((j.t+1:Nat):Int):=h.aq.af rfl
theorem jF.c3 (h:jF j l O qv S w):aE w j.pb 3 j.lv:=h.aq.af rfl
theorem jF.cq (h:jF j l O qv S w){i:Nat}(hi:i<l.length):∃g c,j.lv=aU g l.length c∧aE w g i (qv i)∧w.frozen? ⟨g,i,none⟩=false:=by
 obtain⟨g,c,e,h1,h2⟩:=h.row.cell (KT l.length qv hi);rw[xn]at e;exact⟨g,c,e,h1,h2⟩
theorem jF.yF (h:jF j l O qv S w){k:Nat}(hk:k<l.length){g:Nat}(hg:aK j.lv g){v:Value}{L:List Int}(hv:aF 3 w j.B v L):jF j l O (aI qv k v) (aI S k L) (w.setCell ⟨g,k,none⟩ v):=by
 obtain⟨cs,hb⟩:=h.row.aq hg;have ho:ag (ar g) w (w.setCell ⟨g,k,none⟩ v):=(ag.aj (ar g) w).setCell (p:=⟨g,k,none⟩) (.inl (show ar g g from rfl)) _;have aY:=h.wz g hg;have nB:∀k,j.B≤k→¬ar g k:=fun k hk e=>by have h1:k=g:=e;omega
 have kG:=h.row.store (i:=k) (by rw[xn];exact hk) v hg;rw[Fw]at kG;refine⟨ho.aq h.aq (h.aq.off hb aD),kG,fun i hi=>?_,h.bw.off ho fun h0 k o e e2=>?_,ho.aq h.prt (h.prt.off hb aD),h.t3,h.X9,h.wz,h.Zq,h.UY,Nat.le_trans h.bs ho.size⟩
 ·show aF 3 _ j.B (aI qv k v i) (aI S k L i)
  exact rD
 ·have h1:k=g:=e2;subst h1;exact(h.UY h0 k o e).2 hg
end
section
variable {j:Ga}{l:List aS}{O:Nat→Nat→Int}{S:Nat→List Int}{w:World}{blocks:Int}
theorem sH{P:Prop}(h:P:=by
 go_wp2_with (go_at_call 84;refine HR.mono ?_;rintro e W1 ⟨rfl,m,rfl⟩);go_ret;exact⟨by rw[HE.out];rfl,m,rfl⟩):P:=h
theorem oX {b:Int}(h:JN j l O S w)(hP:dY blocks l)(hb:0≤b∧b<64):
 Calls Tryz.prog 133 #[aO j.pb,ah b] w fun e w'=>e= .returned (ah (bO l O b j.t))∧∃m,w.drewN m=w':=by
 obtain⟨qv,hA⟩:=h;have F2:=hP.2.2;have F0:=hA.t3;have HR:=ae<|ir b w hA.bw hP hb;have HA:=ae hA;have x0:=hA.c0;clear hA hP
 by_cases hr:bj l b<l.length
 ·have e1:fX l b=bj l b:=by unfold fX;rw[if_pos hr]
  have HE:=ae (show bO l O b j.t=O (bj l b) j.t by unfold bO;rw[if_pos hr]);have xp:=fun m=>(show aw (w.drewN m) j.ob (bj l b*4+j.t) (O (bj l b) j.t)from HA.prt.af (yP l.length O hr ao))
  have x1:=fun m=>(show aE (w.drewN m) j.pb 1 (aU j.ob (l.length*4) (l.length*4))from HA.c1)
  have x2:=fun m=>(show aw (w.drewN m) j.pb 2 ((j.t+1:Nat):Int)from HA.c2)
  rw[e1]at HR;clear e1;generalize bj l b=r at *;have hr0:(0:Int)≤r:=ao;have AA:IntKind.i64.wrap (4*(r:Int))=4*r:=by rw[IntKind.wrap_i64];omega
  have pY:IntKind.i64.wrap (4*(r:Int)+((j.t+1:Nat):Int))=4*r+((j.t+1:Nat):Int):=by rw[IntKind.wrap_i64];omega
  have CZ:IntKind.i64.wrap (4*(r:Int)+((j.t+1:Nat):Int) - 1)=((r*4+j.t:Nat):Int):=by rw[IntKind.wrap_i64];omega
  have NI:((r*4+j.t:Nat):Int)<((l.length*4:Nat):Int):=ao;generalize hI:r*4+j.t=I at *;generalize((j.t+1:Nat):Int)=t1 at *;clear hI
  go_enter Tryz.func133,Tryz.ntmps133
  go_upto_region 4 with(go_at_call 84;refine HR.mono ?_;rintro e W1 ⟨rfl,m,rfl⟩);have x1:=x1 m;have x2:=x2 m;have xp:=xp m;generalize hW:w.drewN m=W at *
  go_quiet (fail)
  go_wp2;go_ret;exact⟨by rw[HE.out];rfl,m+nq,by rw[←hW,World.drewN_drewN]⟩
 ·have e1:fX l b= -1:=by unfold fX;rw[if_neg hr]
  have HE:=ae (show bO l O b j.t=0 by unfold bO;rw[if_neg hr]);rw[e1]at HR;clear e1 hr
  go_enter Tryz.func133,Tryz.ntmps133
  exact sH
theorem xm {b:Int}(h:JN j l O S w)(hI:dr l O j.t S)(hP:dY blocks l)(hb:0≤b∧b<64):
 Calls Tryz.prog 132 #[aO j.pb,ah b] w fun e w'=>e= .returned (.bool (decide (b∈S (bj l b))))∧∃m,w.drewN m=w':=by
 obtain⟨qv,hA⟩:=h;have F2:=hP.2.2;have HR:=ae<|ir b w hA.bw hP hb;have HA:=ae hA;have x0:=hA.c0;clear hA hP
 by_cases hr:bj l b<l.length
 ·have e1:fX l b=bj l b:=by unfold fX;rw[if_pos hr]
  obtain⟨g,c,elv,hq,_⟩:=HA.cq hr;have bF:=HA.q _ hr;obtain⟨A,c2,eq,h1,h2⟩:=bF.shape;have HH:=ae<|fun m=>fS A c2 _ (S (bj l b)) b (w.drewN m) (by rw[←eq];exact(bF.aA ((ag.aj az w).drewN m) fun _ _=>id).at) (Nat.le_trans h1 h2);have x3:=fun m=>(show aE (w.drewN m) j.pb 3 (aU g l.length c)from HA.c3.trans (by rw[elv]))
  rw[eq]at hq;have xq:=fun m=>(show aE (w.drewN m) g (bj l b) (.slice A (S (bj l b)).length c2)from hq)
  rw[e1]at HR;clear e1 bF eq h1 h2 hq elv;generalize decide (b∈S (bj l b))=d at *;generalize(S (bj l b)).length=ln at *;generalize bj l b=r at *;have ZD:(r:Int)<l.length:=ao;have hr0:(0:Int)≤r:=ao
  go_enter Tryz.func132,Tryz.ntmps132
  go_upto_region 2 with(go_at_call 84;refine HR.mono ?_;rintro e W1 ⟨rfl,m,rfl⟩);have x3:=x3 m;have xq:=xq m;have HHm:=ae<|HH m;generalize hW:w.drewN m=W at *;go_wp2_with (go_at_call 20;refine HHm.mono ?_;rintro e W1 ⟨rfl,rfl⟩);go_ret;exact⟨rfl,m,hW⟩
 ·have e1:fX l b= -1:=by unfold fX;rw[if_neg hr]
  have HE:=aB (decide (b∈S (bj l b))=false) (decide_eq_false fun h2=>hr (hI.at_ h2).2.1);rw[e1]at HR;clear e1 hr hI
  go_enter Tryz.func132,Tryz.ntmps132
  exact sH
end
def cY (v:Int)(g was:Bool):Array Value:=eU aJ v g was 0
theorem mO (v:Int)(g was:Bool):(cY v g was).all (·.oneCell')=true:=k8 _ _ _ _ _ _ _
section
variable {j:Ga}{l:List aS}{O:Nat→Nat→Int}{qv:Nat→Value}{S S':Nat→List Int}{w w':World}
theorem jF.mK (h:jF j l O qv S w){g:Nat}{cs:Array Value}(hb:Box w g 148 cs)(hg:j.B≤g)(ho:ag (ar g) w w'):jF j l O qv S w':=by
 have n1:∀k,k<j.B→¬ar g k:=fun k hk e=>by have h1:k=g:=e;omega
 exact⟨ho.aq h.aq (n1 _ h.X9),h.row.aA ho fun k hk=>n1 k (h.wz k hk),fun i hi=>(h.q i hi).aA ho fun k hk e=>by
  obtain⟨c2,h2⟩:=(h.q i hi).fQ hk;exact(h2.off hb aD) e,h.bw.off ho fun h0 k o e=>n1 k (h.UY h0 k o e).1,ho.aq h.prt (n1 _ h.Zq),h.t3,h.X9,h.wz,h.Zq,h.UY,Nat.le_trans h.bs ho.size⟩
end
def E8 (j:Ga)(l:List aS)(O:Nat→Nat→Int)(S':Nat→List Int)(v:Int)(g was:Bool)(w:World)(e:Ending)(w':World):Prop:=
 e= .returned (.agg (cY v g was))∧JN j l O S' w'∧ag (aK j.lv) w w'
theorem KS {l:List aS}{O:Nat→Nat→Int}{t:Nat}{S:Nat→List Int}(h:dr l O t S)(b:Int)(i:Nat):aI S (bj l b) ((S (bj l b)).erase b) i=dh S b i:=by
 unfold aI dh
 by_cases e:i=bj l b
 ·rw[if_pos e,e]
 ·rw[if_neg e,List.erase_of_not_mem fun h2=>e (h.at_ h2).1]
section
variable {j:Ga}{l:List aS}{O:Nat→Nat→Int}{S:Nat→List Int}{w:World}{blocks:Int}{b:Int}
theorem fm{P:Prop}(h:P:=by
 rw[Bh.out]at e;injection e with e e2;injection e with e;injection e with e;rw[e];exact h1):P:=h
theorem qL{P:Prop}(h:P:=by
 obtain⟨g,c,e,h1,_⟩:=iX.cq HR;exact fm):P:=h
theorem ba{P:Prop}(h:P:=by rw[Bh.out];exact aG.2 rfl):P:=h
theorem q5{P:Prop}(h:P:=by
 obtain⟨cs,hb⟩:=(iX.keep kD).row.aq (k:=lg) ba;exact hb.free r):P:=h
theorem gS{P:Prop}(h:P:=by obtain⟨g,c,e,_⟩:=iX.cq HR.out;exact⟨g,c,e⟩):P:=h
theorem gK{P:Prop}(h:P:=by have h9:=gw.out;rw[HWB.out]at h9;exact h9):P:=h
theorem gI{P:Prop}(h:P:=by have:=yx.out;have:=eQ.out;omega):P:=h
theorem gP{P:Prop}(h:P:=by have:=eQ.out;omega):P:=h
theorem cS{P:Prop}(h:P:=by rw[Bh.out]):P:=h
theorem WA (h:JN j l O S w)(hI:dr l O j.t S)(hP:dY blocks l)(Gp:0≤b∧b<64)(hb:b∈S (bj l b))(wS:(S (bj l b)).length≤64):
 Calls Tryz.prog 111 #[aO j.pb,.agg #[ah 2,ah b]] w (E8 j l O (dh S b) 0 false true w):=by
 have hr:=(hI.at_ hb).2.1;have HWB:=aB (decide (b∈S (bj l b))=true) (decide_eq_true hb);have Dj:=ae wS;clear hb wS;obtain⟨qv,hA⟩:=h;have F2:=hP.2.2;have Bl:=ae Gp;have lK:=ae hP;have HI:=ae hI;have e1:fX l b=bj l b:=by unfold fX;rw[if_pos hr]
 have eV:=ae<|Box.fresh w 151 #[ah 2,ah b];have aR:ag az w (w.alloc (.cells #[ah 2,ah b] 151)):=(ag.aj az w).alloc _;have aX:=ae aR;have Mu:=ae<|hA.keep aR;have yx:=ae hA.bs;obtain⟨r,EK⟩:∃r,r=bj l b:=⟨_,rfl⟩;have tw:=ae EK;have HR:=ae (show r<l.length by rw[EK];exact hr);have ZD:(r:Int)<l.length:=ao;have hr0:(0:Int)≤r:=ao;clear hA aR hP hI hr EK
 go_enter Tryz.func111,Tryz.ntmps111
 go_upto_region 1 with fail;change Code.wp _ _ _ _ ((w.alloc (.cells #[ah 2,ah b] 151)).alloc (.cells (cY 0 false false) 148));have hsz:(w.alloc (.cells #[ah 2,ah b] 151)).heap.size=w.heap.size+1:=World.size_alloc ..;generalize w.alloc (.cells #[ah 2,ah b] 151)=W0 at *;obtain⟨ab,ic⟩:∃ab,ab=w.heap.size:=⟨_,rfl⟩;rw[←ic]at eV hsz ⊢;have oI:=aB (w.heap.size≤ab) (Nat.le_of_eq ic.symm);clear ic;have b5:=ae<|Box.fresh W0 148 (cY 0 false false);have aR:ag az W0 (W0.alloc (.cells (cY 0 false false) 148)):=(ag.aj az W0).alloc _;have k7:=ae<|aR.aq eV id;have bf:=ae<|aX.trans aR;have eQ:=aB (w.heap.size≤W0.heap.size) (aX.size);have pF:=ae<|Mu.keep aR;clear aR eV aX Mu;generalize W0.alloc (.cells (cY 0 false false) 148)=W1 at *;rw[hsz]at b5 eQ;clear hsz;generalize ab+1=rb at *;have gw:=ae<|xm (b:=b) ⟨qv,pF⟩ HI lK Bl;have gw:Hid (Calls Tryz.prog 132 #[aO j.pb,ah b] W1 fun e w'=>e= .returned (.bool true)∧∃m,W1.drewN m=w'):=ae gK;have y0:aw W1 ab 0 2:=k7.af rfl;have y1:aw W1 ab 1 b:=k7.af rfl;go_upto_region 2 with(go_at_call 132;refine gw.mono ?_;rintro e Wm ⟨rfl,m,hm⟩;have sU:=aB (ag az W1 Wm) (hm▸(ag.aj az W1).drewN m);clear hm);change Code.wp _ _ _ _ (Wm.alloc (.cells (cY 0 false true) 148));have aR:ag az W1 (Wm.alloc (.cells (cY 0 false true) 148)):=sU.alloc _;have yz:=ae<|Box.fresh Wm 148 (cY 0 false true);have iw:=ae<|aR.aq b5 id;have ky:=ae<|aR.aq k7 id;have bn:=ae<|bf.trans aR;have mM:=ae<|pF.keep aR;have gz:=aB (w.heap.size≤Wm.heap.size∧rb<Wm.heap.size) (⟨Nat.le_trans bf.size sU.size,Nat.lt_of_lt_of_le b5.lt sU.size⟩);clear aR gw b5 k7 bf pF y0 y1 sU;generalize Wm.alloc (.cells (cY 0 false true) 148)=W2 at *;generalize Wm.heap.size=eb at *;have tx:=ae<|fun q=>ir b (W2.drewN q) (mM.bw.aA ((ag.aj az W2).drewN q) fun _ _=>id) lK Bl;rw[e1,←tw.out]at tx;clear e1;have x0:aE W2 j.pb 0 (.slice j.A l.length j.c):=mM.c0;have y1:aw W2 ab 1 b:=ky.af rfl
 go_quiet ((go_at_call 84;exact xr ((tx _).mono fun _ _ ⟨he,m,hm⟩=>⟨he,m,hm.symm⟩)))
 have nF:=aB (Box (W2.drewN nq) eb 148 (cY 0 false true)) (((ag.aj az W2).drewN nq).aq yz id);have iR:=aB (Box (W2.drewN nq) rb 148 (cY 0 false false)) (((ag.aj az W2).drewN nq).aq iw id);have gZ:=aB (Box (W2.drewN nq) ab 151 #[ah 2,ah b]) (((ag.aj az W2).drewN nq).aq ky id);have bK:=ae<|bn.drewN nq;have iX:=ae<|mM.keep ((ag.aj az W2).drewN nq);clear yz iw ky bn mM tx x0 y1;generalize W2.drewN nq=W3 at *;have y0:aw W3 ab 0 2:=gZ.af rfl;have y1:aw W3 ab 1 b:=gZ.af rfl;have Bh:Hid (∃lg lc,j.lv=aU lg l.length lc):=ae gS;obtain⟨lg,lc,CP⟩:=Bh.out;have Bh:=ae CP;clear CP;have z3:aE W3 eb 3 (.bool true):=nF.af rfl;have nA:=ae (show(S r).length≤10000 by have:=Dj.out;rw[←tw.out]at this;omega);go_upto_region 7 with fail;have k1:aE W3.drew j.pb 3 (aU lg l.length lc):=iX.c3.trans cS;have k2:aE W3.drew lg r (qv r):=by
  exact qL
 have k3:aw W3.drew ab 1 b:=gZ.af rfl;refine dU (fun w':World=>aE w' j.pb 3 (aU lg l.length lc)∧aE w' lg r (qv r)∧aw w' ab 1 b) 15 fun aH=>?_
 refine bX [0,1,2,3,4,5,6,7,8,9,10,11,12,13] ?_;refine cM 14 fun Kc hK=>?_
 go_simp;refine(dO b W3.drew ((iX.q r HR).aA ((ag.aj az W3).drew) fun _ _=>id) nA).mono ?_;rintro e W4 ⟨vn,rfl,vz,jT⟩;obtain⟨An,nn,cn,rfl⟩:∃A n c,vn=Value.slice A n c:=by obtain⟨A,c,e,_⟩:=vz.shape;exact⟨A,_,c,e⟩
 have Be:=ae vz;have kD:=ae<|(ag.aj az W3).drew.trans jT;have k1:=jT.cell aH.1 id;have k2:=jT.cell aH.2.1 id;have k3:=jT.cell aH.2.2 id;clear vz jT;refine eh hK fun aH=>?_
 clear hK;refine cG ?_;have DB:W4.frozen? ⟨lg,r,none⟩=false:=by
  exact q5
 clear aH k3;go_upto_region 8 with fail;have oe:ag (aK j.lv) W3 (W4.setCell ⟨lg,r,none⟩ (.slice An nn cn)):=(((ag.aj (aK j.lv) W3).da kD).setCell (p:=⟨lg,r,none⟩) (.inl ba) _);have bF:aF 3 W4 j.B (.slice An nn cn) ((S r).erase b):=by
  have h1:=Be.low iX.bs;rw[erase_filter (HI.nodup r)]at h1;exact h1
 have oz:=ae<|(iX.keep kD).yF HR (g:=lg) ba bF;have vI:=ae<|oe.aq nF (fun hk=>by have h9:=iX.wz _ hk;have:=yx.out;have:=oI.out;have:=eQ.out;have:=gz.out;omega);have iz:=ae<|oe.aq iR (fun hk=>by have h9:=iX.wz _ hk;have:=yx.out;have:=oI.out;have:=eQ.out;have:=gz.out;omega);have yB:=ae<|oe.aq gZ (fun hk=>by have h9:=iX.wz _ hk;have:=yx.out;have:=oI.out;have:=eQ.out;have:=gz.out;omega);have bM:=ae<|(bK.mono fun _ hb=>hb.elim).trans oe;change Code.wp _ _ _ _ (W4.setCell ⟨lg,r,none⟩ (.slice An nn cn));clear k1 k2 DB oe bF iX nF iR gZ bK Be kD;generalize W4.setCell ⟨lg,r,none⟩ (.slice An nn cn)=W5 at *;generalize aI qv r (.slice An nn cn)=NB at *;have y0:aw W5 ab 0 2:=yB.af rfl;go_wp2_with (first|(refine fH (cY 0 false true) vI Tryz.underlying148 ?_)|(refine fJ (cY 0 false true) iz (mO _ _ _) ?_))
 (try simp only[Exit.inBlock,Exit.then])
 refine bodyPost_ret (results_cell_row rfl _ _ rb _ (cY 0 false true) (0,0) _ rfl (iz.au _) Tryz.underlying148 rfl bZ) rfl ?_;have iK:ag (ar rb) W5 (W5.setRow rb (cY 0 false true)):=(ag.aj (ar rb) W5).au (.inl rfl) _;exact⟨rfl,⟨_,(oz.congr fun i _=>by rw[tw.out];exact KS HI b i).mK iz gI iK⟩,bM.au (.inr gP) _⟩
theorem qW{P:Prop}(h:P:=by
 obtain⟨g,c,e,h1,_⟩:=oz.cq HR;exact fm):P:=h
theorem qP{P:Prop}(h:P:=by
 obtain⟨cs,hb⟩:=(oz.keep kD).row.aq (k:=lg) ba;exact hb.free r):P:=h
theorem WD (h:JN j l O S w)(hI:dr l O j.t S)(hP:dY blocks l)(Gp:0≤b∧b<64)(hb:b∈S (bj l b))(wS:(S (bj l b)).length≤64):
 Calls Tryz.prog 111 #[aO j.pb,.agg #[ah 0,ah b]] w (E8 j l O (bD (dh S b) (bj l b) b) 0 false true w):=by
 have hr:=(hI.at_ hb).2.1;have HWB:=aB (decide (b∈S (bj l b))=true) (decide_eq_true hb);have Dj:=ae wS;clear hb wS;obtain⟨qv,hA⟩:=h;have F2:=hP.2.2;have Bl:=ae Gp;have lK:=ae hP;have HI:=ae hI;have e1:fX l b=bj l b:=by unfold fX;rw[if_pos hr]
 have eV:=ae<|Box.fresh w 151 #[ah 0,ah b];have aR:ag az w (w.alloc (.cells #[ah 0,ah b] 151)):=(ag.aj az w).alloc _;have aX:=ae aR;have Mu:=ae<|hA.keep aR;have yx:=ae hA.bs;obtain⟨r,EK⟩:∃r,r=bj l b:=⟨_,rfl⟩;have tw:=ae EK;have HR:=ae (show r<l.length by rw[EK];exact hr);have ZD:(r:Int)<l.length:=ao;have hr0:(0:Int)≤r:=ao;clear hA aR hP hI hr EK
 go_enter Tryz.func111,Tryz.ntmps111
 go_upto_region 1 with fail;change Code.wp _ _ _ _ ((w.alloc (.cells #[ah 0,ah b] 151)).alloc (.cells (cY 0 false false) 148));have hsz:(w.alloc (.cells #[ah 0,ah b] 151)).heap.size=w.heap.size+1:=World.size_alloc ..;generalize w.alloc (.cells #[ah 0,ah b] 151)=W0 at *;obtain⟨ab,ic⟩:∃ab,ab=w.heap.size:=⟨_,rfl⟩;rw[←ic]at eV hsz ⊢;have oI:=aB (w.heap.size≤ab) (Nat.le_of_eq ic.symm);clear ic;have b5:=ae<|Box.fresh W0 148 (cY 0 false false);have aR:ag az W0 (W0.alloc (.cells (cY 0 false false) 148)):=(ag.aj az W0).alloc _;have k7:=ae<|aR.aq eV id;have bf:=ae<|aX.trans aR;have eQ:=aB (w.heap.size≤W0.heap.size) (aX.size);have pF:=ae<|Mu.keep aR;clear aR eV aX Mu;generalize W0.alloc (.cells (cY 0 false false) 148)=W1 at *;rw[hsz]at b5 eQ;clear hsz;generalize ab+1=rb at *;have gw:=ae<|xm (b:=b) ⟨qv,pF⟩ HI lK Bl;have gw:Hid (Calls Tryz.prog 132 #[aO j.pb,ah b] W1 fun e w'=>e= .returned (.bool true)∧∃m,W1.drewN m=w'):=ae gK;have y0:aw W1 ab 0 0:=k7.af rfl;have y1:aw W1 ab 1 b:=k7.af rfl;go_upto_region 2 with(go_at_call 132;refine gw.mono ?_;rintro e Wm ⟨rfl,m,hm⟩;have sU:=aB (ag az W1 Wm) (hm▸(ag.aj az W1).drewN m);clear hm);change Code.wp _ _ _ _ (Wm.alloc (.cells (cY 0 false true) 148));have aR:ag az W1 (Wm.alloc (.cells (cY 0 false true) 148)):=sU.alloc _;have yz:=ae<|Box.fresh Wm 148 (cY 0 false true);have iw:=ae<|aR.aq b5 id;have ky:=ae<|aR.aq k7 id;have bn:=ae<|bf.trans aR;have mM:=ae<|pF.keep aR;have gz:=aB (w.heap.size≤Wm.heap.size∧rb<Wm.heap.size) (⟨Nat.le_trans bf.size sU.size,Nat.lt_of_lt_of_le b5.lt sU.size⟩);clear aR gw b5 k7 bf pF y0 y1 sU;generalize Wm.alloc (.cells (cY 0 false true) 148)=W2 at *;generalize Wm.heap.size=eb at *;have tx:=ae<|fun q=>ir b (W2.drewN q) (mM.bw.aA ((ag.aj az W2).drewN q) fun _ _=>id) lK Bl;rw[e1,←tw.out]at tx;clear e1;have x0:aE W2 j.pb 0 (.slice j.A l.length j.c):=mM.c0;have y1:aw W2 ab 1 b:=ky.af rfl
 go_quiet ((go_at_call 84;exact xr ((tx _).mono fun _ _ ⟨he,m,hm⟩=>⟨he,m,hm.symm⟩)))
 have nF:=aB (Box (W2.drewN nq) eb 148 (cY 0 false true)) (((ag.aj az W2).drewN nq).aq yz id);have iR:=aB (Box (W2.drewN nq) rb 148 (cY 0 false false)) (((ag.aj az W2).drewN nq).aq iw id);have gZ:=aB (Box (W2.drewN nq) ab 151 #[ah 0,ah b]) (((ag.aj az W2).drewN nq).aq ky id);have bK:=ae<|bn.drewN nq;have iX:=ae<|mM.keep ((ag.aj az W2).drewN nq);clear yz iw ky bn mM tx x0 y1;generalize W2.drewN nq=W3 at *;have y0:aw W3 ab 0 0:=gZ.af rfl;have y1:aw W3 ab 1 b:=gZ.af rfl;have Bh:Hid (∃lg lc,j.lv=aU lg l.length lc):=ae gS;obtain⟨lg,lc,CP⟩:=Bh.out;have Bh:=ae CP;clear CP;have z3:aE W3 eb 3 (.bool true):=nF.af rfl;have nA:=ae (show(S r).length≤10000 by have:=Dj.out;rw[←tw.out]at this;omega);go_upto_region 7 with fail;have k1:aE W3.drew j.pb 3 (aU lg l.length lc):=iX.c3.trans cS;have k2:aE W3.drew lg r (qv r):=by
  exact qL
 have k3:aw W3.drew ab 1 b:=gZ.af rfl;refine dU (fun w':World=>aE w' j.pb 3 (aU lg l.length lc)∧aE w' lg r (qv r)∧aw w' ab 1 b) 15 fun aH=>?_
 refine bX [0,1,2,3,4,5,6,7,8,9,10,11,12,13] ?_;refine cM 14 fun Kc hK=>?_
 go_simp;refine(dO b W3.drew ((iX.q r HR).aA ((ag.aj az W3).drew) fun _ _=>id) nA).mono ?_;rintro e W4 ⟨vn,rfl,vz,jT⟩;obtain⟨An,nn,cn,rfl⟩:∃A n c,vn=Value.slice A n c:=by obtain⟨A,c,e,_⟩:=vz.shape;exact⟨A,_,c,e⟩
 have Be:=ae vz;have kD:=ae<|(ag.aj az W3).drew.trans jT;have k1:=jT.cell aH.1 id;have k2:=jT.cell aH.2.1 id;have k3:=jT.cell aH.2.2 id;clear vz jT;refine eh hK fun aH=>?_
 clear hK;refine cG ?_;have DB:W4.frozen? ⟨lg,r,none⟩=false:=by
  exact q5
 clear aH k3;go_upto_region 8 with fail;have oe:ag (aK j.lv) W3 (W4.setCell ⟨lg,r,none⟩ (.slice An nn cn)):=(((ag.aj (aK j.lv) W3).da kD).setCell (p:=⟨lg,r,none⟩) (.inl ba) _);have bF:aF 3 W4 j.B (.slice An nn cn) ((S r).erase b):=by
  have h1:=Be.low iX.bs;rw[erase_filter (HI.nodup r)]at h1;exact h1
 have oz:=ae<|(iX.keep kD).yF HR (g:=lg) ba bF;have vI:=ae<|oe.aq nF (fun hk=>by have h9:=iX.wz _ hk;have:=yx.out;have:=oI.out;have:=eQ.out;have:=gz.out;omega);have iz:=ae<|oe.aq iR (fun hk=>by have h9:=iX.wz _ hk;have:=yx.out;have:=oI.out;have:=eQ.out;have:=gz.out;omega);have yB:=ae<|oe.aq gZ (fun hk=>by have h9:=iX.wz _ hk;have:=yx.out;have:=oI.out;have:=eQ.out;have:=gz.out;omega);have bM:=ae<|(bK.mono fun _ hb=>hb.elim).trans oe;change Code.wp _ _ _ _ (W4.setCell ⟨lg,r,none⟩ (.slice An nn cn));clear k1 k2 DB oe bF iX nF iR gZ bK Be kD;generalize W4.setCell ⟨lg,r,none⟩ (.slice An nn cn)=W5 at *;generalize aI qv r (.slice An nn cn)=NB at *;generalize Yn:aI S r ((S r).erase b)=S5 at *;have NS:=aB (S5=dh S b) (Yn▸funext fun i=>(by rw[tw.out];exact KS HI b i));clear Yn;have R0:=ae (show(S5 r).length≤10000 by
  have h1:=nA.out;have h2:((S r).erase b).length≤(S r).length:=List.length_erase_le;rw[NS.out]
  show((S r).erase b).length≤10000
  omega)
 have y0:aw W5 ab 0 0:=yB.af rfl;go_upto_region 9 with fail;have k1:aE W5.drew j.pb 3 (aU lg l.length lc):=oz.c3.trans cS;have k2:aE W5.drew lg r (NB r):=by
  exact qW
 have k3:aw W5.drew ab 1 b:=yB.af rfl;refine dU (fun w':World=>aE w' j.pb 3 (aU lg l.length lc)∧aE w' lg r (NB r)∧aw w' ab 1 b) 15 fun aH=>?_
 refine bX [0,1,2,3,4,5,6,7,8,9,10,11,12,13] ?_;refine cM 14 fun Kc hK=>?_
 go_simp;refine(iF b W5.drew ((oz.q r HR).aA ((ag.aj az W5).drew) fun _ _=>id) R0).mono ?_;rintro e W6 ⟨vn,rfl,vz,jT⟩;obtain⟨An,nn,cn,rfl⟩:∃A n c,vn=Value.slice A n c:=by obtain⟨A,c,e,_⟩:=vz.shape;exact⟨A,_,c,e⟩
 have Be:=ae vz;have kD:=ae<|(ag.aj az W5).drew.trans jT;have k1:=jT.cell aH.1 id;have k2:=jT.cell aH.2.1 id;have k3:=jT.cell aH.2.2 id;clear vz jT;refine eh hK fun aH=>?_
 clear hK;refine cG ?_;have DB:W6.frozen? ⟨lg,r,none⟩=false:=by
  exact qP
 clear aH k3;go_upto_region 10 with fail;have oe:ag (aK j.lv) W5 (W6.setCell ⟨lg,r,none⟩ (.slice An nn cn)):=(((ag.aj (aK j.lv) W5).da kD).setCell (p:=⟨lg,r,none⟩) (.inl ba) _);have bF:aF 3 W6 j.B (.slice An nn cn) (b :: S5 r):=by
  have h1:=Be.low oz.bs;exact h1
 have aa2:=ae<|(oz.keep kD).yF HR (g:=lg) ba bF;have Bk:=ae<|oe.aq vI (fun hk=>by have h9:=oz.wz _ hk;have:=yx.out;have:=oI.out;have:=eQ.out;have:=gz.out;omega);have zE:=ae<|oe.aq iz (fun hk=>by have h9:=oz.wz _ hk;have:=yx.out;have:=oI.out;have:=eQ.out;have:=gz.out;omega);have fC:=ae<|bM.trans oe;change Code.wp _ _ _ _ (W6.setCell ⟨lg,r,none⟩ (.slice An nn cn));clear k1 k2 DB oe bF oz vI iz bM Be kD;generalize W6.setCell ⟨lg,r,none⟩ (.slice An nn cn)=W7 at *;generalize aI NB r (.slice An nn cn)=aco at *;go_wp2_with (first|(refine fH (cY 0 false true) Bk Tryz.underlying148 ?_)|(refine fJ (cY 0 false true) zE (mO _ _ _) ?_))
 (try simp only[Exit.inBlock,Exit.then])
 refine bodyPost_ret (results_cell_row rfl _ _ rb _ (cY 0 false true) (0,0) _ rfl (zE.au _) Tryz.underlying148 rfl bZ) rfl ?_;have iK:ag (ar rb) W7 (W7.setRow rb (cY 0 false true)):=(ag.aj (ar rb) W7).au (.inl rfl) _;exact⟨rfl,⟨_,(aa2.congr fun i _=>by rw[←tw.out,NS.out];rfl).mK zE gI iK⟩,fC.au (.inr gP) _⟩
theorem l3{P:Prop}(h:P:=by
 obtain⟨g,c,e,h1,_⟩:=hY.cq HR;exact fm):P:=h
theorem WC (h:JN j l O S w)(hI:dr l O j.t S)(hP:dY blocks l)(Gp:0≤b∧b<64)(hb:b∈S (bj l b))(hpt:0<bO l O b j.t)(wS:(S (bj l b)).length≤64):
 Calls Tryz.prog 111 #[aO j.pb,.agg #[ah 1,ah b]] w (E8 j l O (bD (dh S b) (bj l b) b) 0 false true w):=by
 have hr:=(hI.at_ hb).2.1;have HWB:=aB (decide (b∈S (bj l b))=true) (decide_eq_true hb);have Dj:=ae wS;clear hb wS;have ZE:(bO l O b j.t==0)=false:=by simp;omega
 have acC:¬bO l O b j.t=0:=ao;obtain⟨qv,hA⟩:=h;have F2:=hP.2.2;have Bl:=ae Gp;have lK:=ae hP;have HI:=ae hI;have e1:fX l b=bj l b:=by unfold fX;rw[if_pos hr]
 have eV:=ae<|Box.fresh w 151 #[ah 1,ah b];have aR:ag az w (w.alloc (.cells #[ah 1,ah b] 151)):=(ag.aj az w).alloc _;have aX:=ae aR;have Mu:=ae<|hA.keep aR;have yx:=ae hA.bs;obtain⟨r,EK⟩:∃r,r=bj l b:=⟨_,rfl⟩;have tw:=ae EK;have HR:=ae (show r<l.length by rw[EK];exact hr);have ZD:(r:Int)<l.length:=ao;have hr0:(0:Int)≤r:=ao;clear hA aR hP hI hr EK
 go_enter Tryz.func111,Tryz.ntmps111
 go_upto_region 1 with fail;change Code.wp _ _ _ _ ((w.alloc (.cells #[ah 1,ah b] 151)).alloc (.cells (cY 0 false false) 148));have hsz:(w.alloc (.cells #[ah 1,ah b] 151)).heap.size=w.heap.size+1:=World.size_alloc ..;generalize w.alloc (.cells #[ah 1,ah b] 151)=W0 at *;obtain⟨ab,ic⟩:∃ab,ab=w.heap.size:=⟨_,rfl⟩;rw[←ic]at eV hsz ⊢;have oI:=aB (w.heap.size≤ab) (Nat.le_of_eq ic.symm);clear ic;have b5:=ae<|Box.fresh W0 148 (cY 0 false false);have aR:ag az W0 (W0.alloc (.cells (cY 0 false false) 148)):=(ag.aj az W0).alloc _;have k7:=ae<|aR.aq eV id;have bf:=ae<|aX.trans aR;have eQ:=aB (w.heap.size≤W0.heap.size) (aX.size);have pF:=ae<|Mu.keep aR;clear aR eV aX Mu;generalize W0.alloc (.cells (cY 0 false false) 148)=W1 at *;rw[hsz]at b5 eQ;clear hsz;generalize ab+1=rb at *;have gw:=ae<|xm (b:=b) ⟨qv,pF⟩ HI lK Bl;have gw:Hid (Calls Tryz.prog 132 #[aO j.pb,ah b] W1 fun e w'=>e= .returned (.bool true)∧∃m,W1.drewN m=w'):=ae gK;have y0:aw W1 ab 0 1:=k7.af rfl;have y1:aw W1 ab 1 b:=k7.af rfl;go_upto_region 2 with(go_at_call 132;refine gw.mono ?_;rintro e Wm ⟨rfl,m,hm⟩;have sU:=aB (ag az W1 Wm) (hm▸(ag.aj az W1).drewN m);clear hm);change Code.wp _ _ _ _ (Wm.alloc (.cells (cY 0 false true) 148));have aR:ag az W1 (Wm.alloc (.cells (cY 0 false true) 148)):=sU.alloc _;have yz:=ae<|Box.fresh Wm 148 (cY 0 false true);have iw:=ae<|aR.aq b5 id;have ky:=ae<|aR.aq k7 id;have bn:=ae<|bf.trans aR;have mM:=ae<|pF.keep aR;have gz:=aB (w.heap.size≤Wm.heap.size∧rb<Wm.heap.size) (⟨Nat.le_trans bf.size sU.size,Nat.lt_of_lt_of_le b5.lt sU.size⟩);clear aR gw b5 k7 bf pF y0 y1 sU;generalize Wm.alloc (.cells (cY 0 false true) 148)=W2 at *;generalize Wm.heap.size=eb at *;have tx:=ae<|fun q=>ir b (W2.drewN q) (mM.bw.aA ((ag.aj az W2).drewN q) fun _ _=>id) lK Bl;rw[e1,←tw.out]at tx;clear e1;have x0:aE W2 j.pb 0 (.slice j.A l.length j.c):=mM.c0;have y1:aw W2 ab 1 b:=ky.af rfl
 go_quiet ((go_at_call 84;exact xr ((tx _).mono fun _ _ ⟨he,m,hm⟩=>⟨he,m,hm.symm⟩)))
 have nF:=aB (Box (W2.drewN nq) eb 148 (cY 0 false true)) (((ag.aj az W2).drewN nq).aq yz id);have iR:=aB (Box (W2.drewN nq) rb 148 (cY 0 false false)) (((ag.aj az W2).drewN nq).aq iw id);have gZ:=aB (Box (W2.drewN nq) ab 151 #[ah 1,ah b]) (((ag.aj az W2).drewN nq).aq ky id);have bK:=ae<|bn.drewN nq;have iX:=ae<|mM.keep ((ag.aj az W2).drewN nq);clear yz iw ky bn mM tx x0 y1;generalize W2.drewN nq=W3 at *;have y0:aw W3 ab 0 1:=gZ.af rfl;have y1:aw W3 ab 1 b:=gZ.af rfl;have Bh:Hid (∃lg lc,j.lv=aU lg l.length lc):=ae gS;obtain⟨lg,lc,CP⟩:=Bh.out;have Bh:=ae CP;clear CP;have DK:=ae<|oX (b:=b) ⟨qv,iX⟩ lK Bl;generalize GM:bO l O b j.t=pv at *;have V8:=ae GM;clear GM;go_upto_region 6 with(go_at_call 133;refine DK.mono ?_;rintro e Wp ⟨rfl,m,hm⟩;have DL:=aB (ag az W3 Wp) (hm▸(ag.aj az W3).drewN m);clear hm);have Bz:=ae<|DL.aq nF id;have GU:=ae<|DL.aq iR id;have vQ:=ae<|DL.aq gZ id;have GW:=ae<|bK.trans DL;have hY:=ae<|iX.keep DL;clear y0 y1 DK nF iR gZ bK iX DL;have y0:aw Wp ab 0 1:=vQ.af rfl;have y1:aw Wp ab 1 b:=vQ.af rfl;have z3:aE Wp eb 3 (.bool true):=Bz.af rfl;have nA:=ae (show(S r).length≤10000 by have:=Dj.out;rw[←tw.out]at this;omega);go_upto_region 7 with fail;have k1:aE Wp.drew j.pb 3 (aU lg l.length lc):=hY.c3.trans cS;have k2:aE Wp.drew lg r (qv r):=by
  exact l3
 have k3:aw Wp.drew ab 1 b:=vQ.af rfl;refine dU (fun w':World=>aE w' j.pb 3 (aU lg l.length lc)∧aE w' lg r (qv r)∧aw w' ab 1 b) 15 fun aH=>?_
 refine bX [0,1,2,3,4,5,6,7,8,9,10,11,12,13] ?_;refine cM 14 fun Kc hK=>?_
 go_simp;refine(dO b Wp.drew ((hY.q r HR).aA ((ag.aj az Wp).drew) fun _ _=>id) nA).mono ?_;rintro e W4 ⟨vn,rfl,vz,jT⟩;obtain⟨An,nn,cn,rfl⟩:∃A n c,vn=Value.slice A n c:=by obtain⟨A,c,e,_⟩:=vz.shape;exact⟨A,_,c,e⟩
 have Be:=ae vz;have kD:=ae<|(ag.aj az Wp).drew.trans jT;have k1:=jT.cell aH.1 id;have k2:=jT.cell aH.2.1 id;have k3:=jT.cell aH.2.2 id;clear vz jT;refine eh hK fun aH=>?_
 clear hK;refine cG ?_;have DB:W4.frozen? ⟨lg,r,none⟩=false:=by
  obtain⟨cs,hb⟩:=(hY.keep kD).row.aq (k:=lg) ba;exact hb.free r
 clear aH k3;go_upto_region 8 with fail;have oe:ag (aK j.lv) Wp (W4.setCell ⟨lg,r,none⟩ (.slice An nn cn)):=(((ag.aj (aK j.lv) Wp).da kD).setCell (p:=⟨lg,r,none⟩) (.inl ba) _);have bF:aF 3 W4 j.B (.slice An nn cn) ((S r).erase b):=by
  have h1:=Be.low hY.bs;rw[erase_filter (HI.nodup r)]at h1;exact h1
 have oz:=ae<|(hY.keep kD).yF HR (g:=lg) ba bF;have vI:=ae<|oe.aq Bz (fun hk=>by have h9:=hY.wz _ hk;have:=yx.out;have:=oI.out;have:=eQ.out;have:=gz.out;omega);have iz:=ae<|oe.aq GU (fun hk=>by have h9:=hY.wz _ hk;have:=yx.out;have:=oI.out;have:=eQ.out;have:=gz.out;omega);have yB:=ae<|oe.aq vQ (fun hk=>by have h9:=hY.wz _ hk;have:=yx.out;have:=oI.out;have:=eQ.out;have:=gz.out;omega);have bM:=ae<|(GW.mono fun _ hb=>hb.elim).trans oe;change Code.wp _ _ _ _ (W4.setCell ⟨lg,r,none⟩ (.slice An nn cn));clear k1 k2 DB oe bF hY Bz GU vQ GW Be kD;generalize W4.setCell ⟨lg,r,none⟩ (.slice An nn cn)=W5 at *;generalize aI qv r (.slice An nn cn)=NB at *;generalize Yn:aI S r ((S r).erase b)=S5 at *;have NS:=aB (S5=dh S b) (Yn▸funext fun i=>(by rw[tw.out];exact KS HI b i));clear Yn;have R0:=ae (show(S5 r).length≤10000 by
  have h1:=nA.out;have h2:((S r).erase b).length≤(S r).length:=List.length_erase_le;rw[NS.out]
  show((S r).erase b).length≤10000
  omega)
 have y0:aw W5 ab 0 1:=yB.af rfl;go_upto_region 9 with fail;have k1:aE W5.drew j.pb 3 (aU lg l.length lc):=oz.c3.trans cS;have k2:aE W5.drew lg r (NB r):=by
  exact qW
 have k3:aw W5.drew ab 1 b:=yB.af rfl;refine dU (fun w':World=>aE w' j.pb 3 (aU lg l.length lc)∧aE w' lg r (NB r)∧aw w' ab 1 b) 15 fun aH=>?_
 refine bX [0,1,2,3,4,5,6,7,8,9,10,11,12,13] ?_;refine cM 14 fun Kc hK=>?_
 go_simp;refine(iF b W5.drew ((oz.q r HR).aA ((ag.aj az W5).drew) fun _ _=>id) R0).mono ?_;rintro e W6 ⟨vn,rfl,vz,jT⟩;obtain⟨An,nn,cn,rfl⟩:∃A n c,vn=Value.slice A n c:=by obtain⟨A,c,e,_⟩:=vz.shape;exact⟨A,_,c,e⟩
 have Be:=ae vz;have kD:=ae<|(ag.aj az W5).drew.trans jT;have k1:=jT.cell aH.1 id;have k2:=jT.cell aH.2.1 id;have k3:=jT.cell aH.2.2 id;clear vz jT;refine eh hK fun aH=>?_
 clear hK;refine cG ?_;have DB:W6.frozen? ⟨lg,r,none⟩=false:=by
  exact qP
 clear aH k3;go_upto_region 10 with fail;have oe:ag (aK j.lv) W5 (W6.setCell ⟨lg,r,none⟩ (.slice An nn cn)):=(((ag.aj (aK j.lv) W5).da kD).setCell (p:=⟨lg,r,none⟩) (.inl ba) _);have bF:aF 3 W6 j.B (.slice An nn cn) (b :: S5 r):=by
  have h1:=Be.low oz.bs;exact h1
 have aa2:=ae<|(oz.keep kD).yF HR (g:=lg) ba bF;have Bk:=ae<|oe.aq vI (fun hk=>by have h9:=oz.wz _ hk;have:=yx.out;have:=oI.out;have:=eQ.out;have:=gz.out;omega);have zE:=ae<|oe.aq iz (fun hk=>by have h9:=oz.wz _ hk;have:=yx.out;have:=oI.out;have:=eQ.out;have:=gz.out;omega);have fC:=ae<|bM.trans oe;change Code.wp _ _ _ _ (W6.setCell ⟨lg,r,none⟩ (.slice An nn cn));clear k1 k2 DB oe bF oz vI iz bM Be kD;generalize W6.setCell ⟨lg,r,none⟩ (.slice An nn cn)=W7 at *;generalize aI NB r (.slice An nn cn)=aco at *;go_wp2_with (first|(refine fH (cY 0 false true) Bk Tryz.underlying148 ?_)|(refine fJ (cY 0 false true) zE (mO _ _ _) ?_))
 (try simp only[Exit.inBlock,Exit.then])
 refine bodyPost_ret (results_cell_row rfl _ _ rb _ (cY 0 false true) (0,0) _ rfl (zE.au _) Tryz.underlying148 rfl bZ) rfl ?_;have iK:ag (ar rb) W7 (W7.setRow rb (cY 0 false true)):=(ag.aj (ar rb) W7).au (.inl rfl) _;exact⟨rfl,⟨_,(aa2.congr fun i _=>by rw[←tw.out,NS.out];rfl).mK zE gI iK⟩,fC.au (.inr gP) _⟩
end
theorem Xx {L:List Int}(h:L≠[]):L.getD 0 0=Go.Proofs.YtchofaecncibjaaGreat.hd L:=by
 cases L with
 |nil=>exact absurd rfl h
 |cons a L=>rfl
section
variable {j:Ga}{l:List aS}{O:Nat→Nat→Int}{S:Nat→List Int}{w:World}{blocks:Int}{b:Int}
theorem FH (h:JN j l O S w)(hI:dr l O j.t S)(hP:dY blocks l)(Gp:0≤b∧b<64)(hb:b∉S (bj l b))(hpt:0<bO l O b j.t)(wS:(S (bj l b)).length≤64)(zS:((S (bj l b)).length:Int)<bO l O b j.t):
 Calls Tryz.prog 111 #[aO j.pb,.agg #[ah 1,ah b]] w (E8 j l O (dH l O j.t S b).1 (dH l O j.t S b).2.1 (dH l O j.t S b).2.2 false w):=by
 have hr:=(BS hpt).1;have HWB:=aB (decide (b∈S (bj l b))=false) (decide_eq_false hb);have Dj:=ae wS;have Vx:=aB (∀i,b∉S i) (fun i h2=>hb (by rw[←(hI.at_ h2).1];exact h2));have ZE:(bO l O b j.t==0)=false:=by simp;omega
 have acC:¬bO l O b j.t=0:=ao;have vf:=ae (show dH l O j.t S b=(bD (dh S b) (bj l b) b,0,false) by unfold dH;rw[if_neg hb,if_pos zS]);clear hb wS;obtain⟨qv,hA⟩:=h;have F2:=hP.2.2;have Bl:=ae Gp;have lK:=ae hP;have HI:=ae hI;have e1:fX l b=bj l b:=by unfold fX;rw[if_pos hr]
 have eV:=ae<|Box.fresh w 151 #[ah 1,ah b];have aR:ag az w (w.alloc (.cells #[ah 1,ah b] 151)):=(ag.aj az w).alloc _;have aX:=ae aR;have Mu:=ae<|hA.keep aR;have yx:=ae hA.bs;obtain⟨r,EK⟩:∃r,r=bj l b:=⟨_,rfl⟩;have tw:=ae EK;have HR:=ae (show r<l.length by rw[EK];exact hr);have ZD:(r:Int)<l.length:=ao;have hr0:(0:Int)≤r:=ao;clear hA aR hP hI hr EK
 go_enter Tryz.func111,Tryz.ntmps111
 go_upto_region 1 with fail;change Code.wp _ _ _ _ ((w.alloc (.cells #[ah 1,ah b] 151)).alloc (.cells (cY 0 false false) 148));have hsz:(w.alloc (.cells #[ah 1,ah b] 151)).heap.size=w.heap.size+1:=World.size_alloc ..;generalize w.alloc (.cells #[ah 1,ah b] 151)=W0 at *;obtain⟨ab,ic⟩:∃ab,ab=w.heap.size:=⟨_,rfl⟩;rw[←ic]at eV hsz ⊢;have oI:=aB (w.heap.size≤ab) (Nat.le_of_eq ic.symm);clear ic;have b5:=ae<|Box.fresh W0 148 (cY 0 false false);have aR:ag az W0 (W0.alloc (.cells (cY 0 false false) 148)):=(ag.aj az W0).alloc _;have k7:=ae<|aR.aq eV id;have bf:=ae<|aX.trans aR;have eQ:=aB (w.heap.size≤W0.heap.size) (aX.size);have pF:=ae<|Mu.keep aR;clear aR eV aX Mu;generalize W0.alloc (.cells (cY 0 false false) 148)=W1 at *;rw[hsz]at b5 eQ;clear hsz;generalize ab+1=rb at *;have gw:=ae<|xm (b:=b) ⟨qv,pF⟩ HI lK Bl;have gw:Hid (Calls Tryz.prog 132 #[aO j.pb,ah b] W1 fun e w'=>e= .returned (.bool false)∧∃m,W1.drewN m=w'):=ae gK;have y0:aw W1 ab 0 1:=k7.af rfl;have y1:aw W1 ab 1 b:=k7.af rfl;go_upto_region 2 with(go_at_call 132;refine gw.mono ?_;rintro e Wm ⟨rfl,m,hm⟩;have sU:=aB (ag az W1 Wm) (hm▸(ag.aj az W1).drewN m);clear hm);change Code.wp _ _ _ _ (Wm.alloc (.cells (cY 0 false false) 148));have aR:ag az W1 (Wm.alloc (.cells (cY 0 false false) 148)):=sU.alloc _;have yz:=ae<|Box.fresh Wm 148 (cY 0 false false);have iw:=ae<|aR.aq b5 id;have ky:=ae<|aR.aq k7 id;have bn:=ae<|bf.trans aR;have mM:=ae<|pF.keep aR;have gz:=aB (w.heap.size≤Wm.heap.size∧rb<Wm.heap.size) (⟨Nat.le_trans bf.size sU.size,Nat.lt_of_lt_of_le b5.lt sU.size⟩);clear aR gw b5 k7 bf pF y0 y1 sU;generalize Wm.alloc (.cells (cY 0 false false) 148)=W2 at *;generalize Wm.heap.size=eb at *;have tx:=ae<|fun q=>ir b (W2.drewN q) (mM.bw.aA ((ag.aj az W2).drewN q) fun _ _=>id) lK Bl;rw[e1,←tw.out]at tx;clear e1;have x0:aE W2 j.pb 0 (.slice j.A l.length j.c):=mM.c0;have y1:aw W2 ab 1 b:=ky.af rfl
 go_quiet ((go_at_call 84;exact xr ((tx _).mono fun _ _ ⟨he,m,hm⟩=>⟨he,m,hm.symm⟩)))
 have nF:=aB (Box (W2.drewN nq) eb 148 (cY 0 false false)) (((ag.aj az W2).drewN nq).aq yz id);have iR:=aB (Box (W2.drewN nq) rb 148 (cY 0 false false)) (((ag.aj az W2).drewN nq).aq iw id);have gZ:=aB (Box (W2.drewN nq) ab 151 #[ah 1,ah b]) (((ag.aj az W2).drewN nq).aq ky id);have bK:=ae<|bn.drewN nq;have iX:=ae<|mM.keep ((ag.aj az W2).drewN nq);clear yz iw ky bn mM tx x0 y1;generalize W2.drewN nq=W3 at *;have y0:aw W3 ab 0 1:=gZ.af rfl;have y1:aw W3 ab 1 b:=gZ.af rfl;have Bh:Hid (∃lg lc,j.lv=aU lg l.length lc):=ae gS;obtain⟨lg,lc,CP⟩:=Bh.out;have Bh:=ae CP;clear CP;have DK:=ae<|oX (b:=b) ⟨qv,iX⟩ lK Bl;generalize GM:bO l O b j.t=pv at *;have V8:=ae GM;clear GM;go_upto_region 6 with(go_at_call 133;refine DK.mono ?_;rintro e Wp ⟨rfl,m,hm⟩;have DL:=aB (ag az W3 Wp) (hm▸(ag.aj az W3).drewN m);clear hm);have Bz:=ae<|DL.aq nF id;have GU:=ae<|DL.aq iR id;have vQ:=ae<|DL.aq gZ id;have GW:=ae<|bK.trans DL;have hY:=ae<|iX.keep DL;clear y0 y1 DK nF iR gZ bK iX DL;have y0:aw Wp ab 0 1:=vQ.af rfl;have y1:aw Wp ab 1 b:=vQ.af rfl;have z3:aE Wp eb 3 (.bool false):=Bz.af rfl;have KH:=ae<|oX (b:=b) ⟨qv,hY⟩ lK Bl;rw[V8.out]at KH;have x3:aE Wp j.pb 3 (aU lg l.length lc):=hY.c3.trans cS;have xq:aE Wp lg r (qv r):=by
  exact l3
 have BF:=hY.q r HR;obtain⟨A,c,eq,pA,kC⟩:=BF.shape;have uN:=BF.at;rw[eq]at xq uN;rw[←tw.out]at zS;have nA:=ae (show(S r).length≤10000 by have:=Dj.out;rw[←tw.out]at this;omega);clear eq pA kC BF uN;go_upto_region 20 with(go_at_call 133;refine KH.mono ?_;rintro e Wq ⟨rfl,m,hm⟩;have EV:=aB (ag az Wp Wq) (hm▸(ag.aj az Wp).drewN m);clear hm);have HEq:=ae<|EV.aq Bz id;have HRq:=ae<|EV.aq GU id;have HAq:=ae<|EV.aq vQ id;have HOq:=aB (ag (aK j.lv) w Wq) ((GW.trans EV).mono fun _ hb=>hb.elim);have uR:=ae<|hY.keep EV;clear x3 xq y0 y1 z3 KH Bz GU vQ GW hY EV;have k1:aE Wq.drew j.pb 3 (aU lg l.length lc):=uR.c3.trans cS;have k2:aE Wq.drew lg r (qv r):=by
  obtain⟨g,c,e,h1,_⟩:=uR.cq HR;exact fm
 have k3:aw Wq.drew ab 1 b:=HAq.af rfl;refine dU (fun w':World=>aE w' j.pb 3 (aU lg l.length lc)∧aE w' lg r (qv r)∧aw w' ab 1 b) 15 fun aH=>?_
 refine bX [0,1,2,3,4,5,6,7,8,9,10,11,12,13] ?_;refine cM 14 fun Kc hK=>?_
 go_simp;refine(iF b Wq.drew ((uR.q r HR).aA ((ag.aj az Wq).drew) fun _ _=>id) nA).mono ?_;rintro e W4 ⟨vn,rfl,vz,jT⟩;obtain⟨An,nn,cn,rfl⟩:∃A n c,vn=Value.slice A n c:=by obtain⟨A,c,e,_⟩:=vz.shape;exact⟨A,_,c,e⟩
 have Be:=ae vz;have kD:=ae<|(ag.aj az Wq).drew.trans jT;have k1:=jT.cell aH.1 id;have k2:=jT.cell aH.2.1 id;have k3:=jT.cell aH.2.2 id;clear vz jT;refine eh hK fun aH=>?_
 clear hK;refine cG ?_;have DB:W4.frozen? ⟨lg,r,none⟩=false:=by
  obtain⟨cs,hb⟩:=(uR.keep kD).row.aq (k:=lg) ba;exact hb.free r
 clear aH k3;go_upto_region 21 with fail;have oe:ag (aK j.lv) Wq (W4.setCell ⟨lg,r,none⟩ (.slice An nn cn)):=(((ag.aj (aK j.lv) Wq).da kD).setCell (p:=⟨lg,r,none⟩) (.inl ba) _);have bF:aF 3 W4 j.B (.slice An nn cn) (b :: S r):=by
  have h1:=Be.low uR.bs;exact h1
 have oz:=ae<|(uR.keep kD).yF HR (g:=lg) ba bF;have vI:=ae<|oe.aq HEq (fun hk=>by have h9:=uR.wz _ hk;have:=yx.out;have:=oI.out;have:=eQ.out;have:=gz.out;omega);have iz:=ae<|oe.aq HRq (fun hk=>by have h9:=uR.wz _ hk;have:=yx.out;have:=oI.out;have:=eQ.out;have:=gz.out;omega);have bM:=ae<|HOq.trans oe;change Code.wp _ _ _ _ (W4.setCell ⟨lg,r,none⟩ (.slice An nn cn));clear k1 k2 DB oe bF uR HEq HRq HOq Be kD;generalize W4.setCell ⟨lg,r,none⟩ (.slice An nn cn)=W5 at *;generalize aI qv r (.slice An nn cn)=NB at *;go_wp2_with (first|(refine fH (cY 0 false false) vI Tryz.underlying148 ?_)|(refine fJ (cY 0 false false) iz (mO _ _ _) ?_))
 (try simp only[Exit.inBlock,Exit.then])
 refine bodyPost_ret (results_cell_row rfl _ _ rb _ (cY 0 false false) (0,0) _ rfl (iz.au _) Tryz.underlying148 rfl bZ) rfl ?_;have iK:ag (ar rb) W5 (W5.setRow rb (cY 0 false false)):=(ag.aj (ar rb) W5).au (.inl rfl) _;refine⟨by rw[vf.out],⟨_,(oz.congr fun i _=>?_).mK iz gI iK⟩,bM.au (.inr gP) _⟩;have h2:dh S b=S:=funext fun k=>List.erase_of_not_mem (Vx k)
 rw[vf.out]
 show _=bD (dh S b) (bj l b) b i
 rw[h2,←tw.out];rfl
theorem qe{P:Prop}(h:P:=by
 have k1:aE Wx.drew j.pb 3 (aU lg l.length lc):=Bs.c3.trans cS;have k2:aE Wx.drew lg r (qv r):=by
  obtain⟨g,c,e,h1,_⟩:=Bs.cq HR;exact fm
 have k3:aw Wx.drew eb 1 v:=HEx.af rfl;refine dU (fun w':World=>aE w' j.pb 3 (aU lg l.length lc)∧aE w' lg r (qv r)∧aw w' eb 1 v) 15 fun aH=>?_
 refine bX [0,1,2,3,4,5,6,7,8,9,10,11,12,13] ?_;refine cM 14 fun Kc hK=>?_
 go_simp;refine(dO v Wx.drew ((Bs.q r HR).aA ((ag.aj az Wx).drew) fun _ _=>id) nA).mono ?_;rintro e Wxx ⟨vn,rfl,vz,jT⟩;obtain⟨An,nn,cn,rfl⟩:∃A n c,vn=Value.slice A n c:=by obtain⟨A,c,e,_⟩:=vz.shape;exact⟨A,_,c,e⟩
 have Be:=ae vz;have kD:=ae<|(ag.aj az Wx).drew.trans jT;have k1:=jT.cell aH.1 id;have k2:=jT.cell aH.2.1 id;have k3:=jT.cell aH.2.2 id;clear vz jT;refine eh hK fun aH=>?_
 clear hK;refine cG ?_;have DB:Wxx.frozen? ⟨lg,r,none⟩=false:=by
  obtain⟨cs,hb⟩:=(Bs.keep kD).row.aq (k:=lg) ba;exact hb.free r
 clear aH k3;go_upto_region 20 with fail;have oe:ag (aK j.lv) Wx (Wxx.setCell ⟨lg,r,none⟩ (.slice An nn cn)):=(((ag.aj (aK j.lv) Wx).da kD).setCell (p:=⟨lg,r,none⟩) (.inl ba) _);have bF:aF 3 Wxx j.B (.slice An nn cn) ((S r).erase v):=by
  have h1:=Be.low Bs.bs;rw[erase_filter (HI.nodup r)]at h1;exact h1
 have Fc:=ae<|(Bs.keep kD).yF HR (g:=lg) ba bF;have HEy:=ae<|oe.aq HEx (fun hk=>by have h9:=Bs.wz _ hk;have:=yx.out;have:=oI.out;have:=eQ.out;have:=gz.out;omega);have HRy:=ae<|oe.aq Yz (fun hk=>by have h9:=Bs.wz _ hk;have:=yx.out;have:=oI.out;have:=eQ.out;have:=gz.out;omega);have HAy:=ae<|oe.aq HAx (fun hk=>by have h9:=Bs.wz _ hk;have:=yx.out;have:=oI.out;have:=eQ.out;have:=gz.out;omega);have HOy:=ae<|Mw.trans oe;change Code.wp _ _ _ _ (Wxx.setCell ⟨lg,r,none⟩ (.slice An nn cn));clear k1 k2 DB oe bF Bs HEx Yz HAx Mw Be kD;generalize Wxx.setCell ⟨lg,r,none⟩ (.slice An nn cn)=Wy at *;generalize aI qv r (.slice An nn cn)=NB at *;generalize Yn:aI S r ((S r).erase v)=S5 at *;have NS:=aB (S5=dh S v) (Yn▸funext fun i=>by
  unfold aI dh
  by_cases e:i=r
  ·rw[if_pos e,e]
  ·rw[if_neg e,List.erase_of_not_mem fun h2=>e ((HI.at_ h2).1.trans (HI.at_ HVM.out).1.symm)])
 clear Yn;have R0:=ae (show(S5 r).length≤10000 by
  have h1:=nA.out;have h2:((S r).erase v).length≤(S r).length:=List.length_erase_le;rw[NS.out]
  show((S r).erase v).length≤10000
  omega)
 have k1:aE Wy.drew j.pb 3 (aU lg l.length lc):=Fc.c3.trans cS;have k2:aE Wy.drew lg r (NB r):=by
  obtain⟨g,c,e,h1,_⟩:=Fc.cq HR;exact fm
 have k3:aw Wy.drew ab 1 b:=HAy.af rfl;refine dU (fun w':World=>aE w' j.pb 3 (aU lg l.length lc)∧aE w' lg r (NB r)∧aw w' ab 1 b) 15 fun aH=>?_
 refine bX [0,1,2,3,4,5,6,7,8,9,10,11,12,13] ?_;refine cM 14 fun Kc hK=>?_
 go_simp;refine(iF b Wy.drew ((Fc.q r HR).aA ((ag.aj az Wy).drew) fun _ _=>id) R0).mono ?_;rintro e Wyy ⟨vn,rfl,vz,jT⟩;obtain⟨An,nn,cn,rfl⟩:∃A n c,vn=Value.slice A n c:=by obtain⟨A,c,e,_⟩:=vz.shape;exact⟨A,_,c,e⟩
 have Be:=ae vz;have kD:=ae<|(ag.aj az Wy).drew.trans jT;have k1:=jT.cell aH.1 id;have k2:=jT.cell aH.2.1 id;have k3:=jT.cell aH.2.2 id;clear vz jT;refine eh hK fun aH=>?_
 clear hK;refine cG ?_;have DB:Wyy.frozen? ⟨lg,r,none⟩=false:=by
  obtain⟨cs,hb⟩:=(Fc.keep kD).row.aq (k:=lg) ba;exact hb.free r
 clear aH k3;go_upto_region 21 with fail;have oe:ag (aK j.lv) Wy (Wyy.setCell ⟨lg,r,none⟩ (.slice An nn cn)):=(((ag.aj (aK j.lv) Wy).da kD).setCell (p:=⟨lg,r,none⟩) (.inl ba) _);have bF:aF 3 Wyy j.B (.slice An nn cn) (b :: S5 r):=by
  have h1:=Be.low Fc.bs;exact h1
 have afJ:=ae<|(Fc.keep kD).yF HR (g:=lg) ba bF;have HEz:=ae<|oe.aq HEy (fun hk=>by have h9:=Fc.wz _ hk;have:=yx.out;have:=oI.out;have:=eQ.out;have:=gz.out;omega);have HRz:=ae<|oe.aq HRy (fun hk=>by have h9:=Fc.wz _ hk;have:=yx.out;have:=oI.out;have:=eQ.out;have:=gz.out;omega);have HOz:=ae<|HOy.trans oe;change Code.wp _ _ _ _ (Wyy.setCell ⟨lg,r,none⟩ (.slice An nn cn));clear k1 k2 DB oe bF Fc HEy HRy HOy Be kD;generalize Wyy.setCell ⟨lg,r,none⟩ (.slice An nn cn)=Wz at *;generalize aI NB r (.slice An nn cn)=aco at *;go_wp2_with (first|(refine fH (cY v true false) HEz Tryz.underlying148 ?_)|(refine fJ (cY v true false) HRz (mO _ _ _) ?_))
 (try simp only[Exit.inBlock,Exit.then])
 refine bodyPost_ret (results_cell_row rfl _ _ rb _ (cY v true false) (0,0) _ rfl (HRz.au _) Tryz.underlying148 rfl bZ) rfl ?_;have iK:ag (ar rb) Wz (Wz.setRow rb (cY v true false)):=(ag.aj (ar rb) Wz).au (.inl rfl) _;refine⟨by rw[vf.out],⟨_,(afJ.congr fun i _=>?_).mK HRz gI iK⟩,HOz.au (.inr gP) _⟩;have h2:dh (dh S v) b=dh S v:=funext fun k=>List.erase_of_not_mem fun h3=>Vx k (List.mem_of_mem_erase h3)
 rw[vf.out]
 show _=bD (dh (dh S v) b) r b i
 rw[h2,NS.out];rfl):P:=h
theorem jz{P:Prop}(h:P:=by have:=yx.out;have:=gz.out;omega):P:=h
theorem FJ (h:JN j l O S w)(hI:dr l O j.t S)(hP:dY blocks l)(Gp:0≤b∧b<64)(hb:b∉S (bj l b))(hpt:0<bO l O b j.t)(wS:(S (bj l b)).length≤64)(Hn:bO l O b j.t≤((S (bj l b)).length:Int)):
 Calls Tryz.prog 111 #[aO j.pb,.agg #[ah 1,ah b]] w (E8 j l O (dH l O j.t S b).1 (dH l O j.t S b).2.1 (dH l O j.t S b).2.2 false w):=by
 have hr:=(BS hpt).1;have HWB:=aB (decide (b∈S (bj l b))=false) (decide_eq_false hb);have Dj:=ae wS;have Vx:=aB (∀i,b∉S i) (fun i h2=>hb (by rw[←(hI.at_ h2).1];exact h2));have ZE:(bO l O b j.t==0)=false:=by simp;omega
 have acC:¬bO l O b j.t=0:=ao;have hne:S (bj l b)≠[]:=fun e=>by rw[e]at Hn;simp at Hn;omega
 have yu:=ae hne;have Oh:=ae (show dH l O j.t S b=(bD (dh (dh S (hZ l S (bj l b) b)) b) (bj l b) b,hZ l S (bj l b) b,true) by unfold dH;rw[if_neg hb,if_neg ao]);have aaV:=ae<|ua (l:=l) (b:=b) hne;have Vv:=ae (show hZ l S (bj l b) b=if(l.getD (bj l b) default).loop=true then Go.Proofs.YtchofaecncibjaaGreat.hd (S (bj l b))else eB (S (bj l b)) by
  unfold hZ Hg;rw[decide_eq_true hr,Bool.true_and])
 clear hne;clear hb wS;obtain⟨qv,hA⟩:=h;have F2:=hP.2.2;have Bl:=ae Gp;have lK:=ae hP;have HI:=ae hI;have e1:fX l b=bj l b:=by unfold fX;rw[if_pos hr]
 have eV:=ae<|Box.fresh w 151 #[ah 1,ah b];have aR:ag az w (w.alloc (.cells #[ah 1,ah b] 151)):=(ag.aj az w).alloc _;have aX:=ae aR;have Mu:=ae<|hA.keep aR;have yx:=ae hA.bs;obtain⟨r,EK⟩:∃r,r=bj l b:=⟨_,rfl⟩;have tw:=ae EK;have HR:=ae (show r<l.length by rw[EK];exact hr);have ZD:(r:Int)<l.length:=ao;have hr0:(0:Int)≤r:=ao;clear hA aR hP hI hr EK
 go_enter Tryz.func111,Tryz.ntmps111
 go_upto_region 1 with fail;change Code.wp _ _ _ _ ((w.alloc (.cells #[ah 1,ah b] 151)).alloc (.cells (cY 0 false false) 148));have hsz:(w.alloc (.cells #[ah 1,ah b] 151)).heap.size=w.heap.size+1:=World.size_alloc ..;generalize w.alloc (.cells #[ah 1,ah b] 151)=W0 at *;obtain⟨ab,ic⟩:∃ab,ab=w.heap.size:=⟨_,rfl⟩;rw[←ic]at eV hsz ⊢;have oI:=aB (w.heap.size≤ab) (Nat.le_of_eq ic.symm);clear ic;have b5:=ae<|Box.fresh W0 148 (cY 0 false false);have aR:ag az W0 (W0.alloc (.cells (cY 0 false false) 148)):=(ag.aj az W0).alloc _;have k7:=ae<|aR.aq eV id;have bf:=ae<|aX.trans aR;have eQ:=aB (w.heap.size≤W0.heap.size) (aX.size);have pF:=ae<|Mu.keep aR;clear aR eV aX Mu;generalize W0.alloc (.cells (cY 0 false false) 148)=W1 at *;rw[hsz]at b5 eQ;clear hsz;generalize ab+1=rb at *;have gw:=ae<|xm (b:=b) ⟨qv,pF⟩ HI lK Bl;have gw:Hid (Calls Tryz.prog 132 #[aO j.pb,ah b] W1 fun e w'=>e= .returned (.bool false)∧∃m,W1.drewN m=w'):=ae gK;have y0:aw W1 ab 0 1:=k7.af rfl;have y1:aw W1 ab 1 b:=k7.af rfl;go_upto_region 2 with(go_at_call 132;refine gw.mono ?_;rintro e Wm ⟨rfl,m,hm⟩;have sU:=aB (ag az W1 Wm) (hm▸(ag.aj az W1).drewN m);clear hm);change Code.wp _ _ _ _ (Wm.alloc (.cells (cY 0 false false) 148));have aR:ag az W1 (Wm.alloc (.cells (cY 0 false false) 148)):=sU.alloc _;have yz:=ae<|Box.fresh Wm 148 (cY 0 false false);have iw:=ae<|aR.aq b5 id;have ky:=ae<|aR.aq k7 id;have bn:=ae<|bf.trans aR;have mM:=ae<|pF.keep aR;have gz:=aB (w.heap.size≤Wm.heap.size∧rb<Wm.heap.size) (⟨Nat.le_trans bf.size sU.size,Nat.lt_of_lt_of_le b5.lt sU.size⟩);clear aR gw b5 k7 bf pF y0 y1 sU;generalize Wm.alloc (.cells (cY 0 false false) 148)=W2 at *;generalize Wm.heap.size=eb at *;have tx:=ae<|fun q=>ir b (W2.drewN q) (mM.bw.aA ((ag.aj az W2).drewN q) fun _ _=>id) lK Bl;rw[e1,←tw.out]at tx;clear e1;have x0:aE W2 j.pb 0 (.slice j.A l.length j.c):=mM.c0;have y1:aw W2 ab 1 b:=ky.af rfl
 go_quiet ((go_at_call 84;exact xr ((tx _).mono fun _ _ ⟨he,m,hm⟩=>⟨he,m,hm.symm⟩)))
 have nF:=aB (Box (W2.drewN nq) eb 148 (cY 0 false false)) (((ag.aj az W2).drewN nq).aq yz id);have iR:=aB (Box (W2.drewN nq) rb 148 (cY 0 false false)) (((ag.aj az W2).drewN nq).aq iw id);have gZ:=aB (Box (W2.drewN nq) ab 151 #[ah 1,ah b]) (((ag.aj az W2).drewN nq).aq ky id);have bK:=ae<|bn.drewN nq;have iX:=ae<|mM.keep ((ag.aj az W2).drewN nq);clear yz iw ky bn mM tx x0 y1;generalize W2.drewN nq=W3 at *;have y0:aw W3 ab 0 1:=gZ.af rfl;have y1:aw W3 ab 1 b:=gZ.af rfl;have Bh:Hid (∃lg lc,j.lv=aU lg l.length lc):=ae gS;obtain⟨lg,lc,CP⟩:=Bh.out;have Bh:=ae CP;clear CP;have DK:=ae<|oX (b:=b) ⟨qv,iX⟩ lK Bl;generalize GM:bO l O b j.t=pv at *;have V8:=ae GM;clear GM;go_upto_region 6 with(go_at_call 133;refine DK.mono ?_;rintro e Wp ⟨rfl,m,hm⟩;have DL:=aB (ag az W3 Wp) (hm▸(ag.aj az W3).drewN m);clear hm);have Bz:=ae<|DL.aq nF id;have GU:=ae<|DL.aq iR id;have vQ:=ae<|DL.aq gZ id;have GW:=ae<|bK.trans DL;have hY:=ae<|iX.keep DL;clear y0 y1 DK nF iR gZ bK iX DL;have y0:aw Wp ab 0 1:=vQ.af rfl;have y1:aw Wp ab 1 b:=vQ.af rfl;have z3:aE Wp eb 3 (.bool false):=Bz.af rfl;have KH:=ae<|oX (b:=b) ⟨qv,hY⟩ lK Bl;rw[V8.out]at KH;have x3:aE Wp j.pb 3 (aU lg l.length lc):=hY.c3.trans cS;have xq:aE Wp lg r (qv r):=by
  exact l3
 have BF:=hY.q r HR;obtain⟨A,c,eq,pA,kC⟩:=BF.shape;have uN:=BF.at;rw[eq]at xq uN;rw[←tw.out]at Hn yu Oh aaV Vv;have nA:=ae (show(S r).length≤10000 by have:=Dj.out;rw[←tw.out]at this;omega);obtain⟨M,hM⟩:∃M,(S r).length=M+1:=⟨(S r).length - 1,by have:=List.length_pos_iff.2 yu.out;omega⟩;obtain⟨g,o,rfl,jU⟩:=uN.af (i:=M) ao;obtain⟨g',o',e',hch⟩:=uN.af (i:=0) ao;injection e' with e';injection e' with e1 e2;subst e1 e2;rw[xN hM]at jU;rw[Xx yu.out,Nat.add_zero]at hch;rw[hM]at xq Hn;have agX:M≤64:=by have:=Dj.out;rw[←tw.out]at this;omega
 have agt:pv≤(M:Int)+1:=ao;have hwM:IntKind.i64.wrap (M:Int)=M:=by rw[IntKind.wrap_i64];omega
 have hM1:(M:Int)<(M:Int)+1:=ao;have hM0:(0:Int)<(M:Int)+1:=ao;obtain⟨hg,hgo,ehA,_,_,_,_,hlp⟩:=hY.bw.at_ r HR;have x0:aE Wp j.pb 0 (.slice (some ⟨hg,hgo,none⟩) l.length j.c):=hY.c0.trans (by rw[ehA]);have HM:=ae hM;have HQR:=ae eq;have HHA:=ae ehA;clear eq pA kC BF uN ehA hM;go_upto_region 15 with(go_at_call 133;refine KH.mono ?_;rintro e Wq ⟨rfl,m,hm⟩;have EV:=aB (ag az Wp Wq) (hm▸(ag.aj az Wp).drewN m);clear hm);have HEq:=ae<|EV.aq Bz id;have HRq:=ae<|EV.aq GU id;have HAq:=ae<|EV.aq vQ id;have HOq:=aB (ag (aK j.lv) w Wq) ((GW.trans EV).mono fun _ hb=>hb.elim);have uR:=ae<|hY.keep EV;have x3q:=EV.cell x3 id;have xqq:=EV.cell xq id;have acT:=EV.cell jU id;have acV:=EV.cell hch id;have x0q:=EV.cell x0 id;have acL:=EV.cell hlp id;clear x3 xq y0 y1 z3 KH Bz GU vQ GW hY EV jU hch x0 hlp;generalize acK:eB (S r)=vl at *;generalize hhd:Go.Proofs.YtchofaecncibjaaGreat.hd (S r)=vh at *;have a1:aw Wq eb 1 0:=HEq.af rfl;have f1:Wq.frozen? ⟨eb,1,none⟩=false:=HEq.free 1;have HNQ:=aB ((¬ar eb j.pb)∧(¬ar eb lg)∧(¬ar eb g)∧(¬ar eb hg)) (by
  have h1:=uR.X9;have h2:=uR.wz lg ba;have h4:=yx.out;have h5:=gz.out;refine⟨fun e=>?_,fun e=>?_,fun e=>?_,fun e=>?_⟩
  ·have h9:j.pb=eb:=e;omega
  ·have h9:lg=eb:=e;omega
  ·have h9:g=eb:=e;obtain⟨c9,QU⟩:=(uR.q r HR).fQ (k:=g) (by rw[HQR.out];exact aG.2 rfl);exact(QU.off HEq aD) h9
  ·have h9:hg=eb:=e;have:=(uR.UY (by have:=HR.out;omega) hg hgo HHA).1;omega)
 generalize hZ l S r b=v at *;go_upto_region 16 with fail;have DA:ag (ar eb) Wq (Wq.setCell ⟨eb,1,none⟩ (ah vl)):=(ag.aj (ar eb) Wq).setCell (p:=⟨eb,1,none⟩) (.inl (show ar eb eb from rfl)) _;have QA:=aB (Box _ eb 148 (cY vl false false)) (HEq.store 1 (ah vl));have HRs:=ae<|DA.aq HRq (fun e=>by have h9:rb=eb:=e;have:=gz.out;omega);have HAs:=ae<|DA.aq HAq (HAq.off HEq aD);have HOs:=ae<|HOq.setCell (p:=⟨eb,1,none⟩) (.inr gz.1) (ah vl);have V0:=ae<|uR.mK HEq jz DA;have N7:=ae DA;change Code.wp _ _ _ _ (Wq.setCell ⟨eb,1,none⟩ (ah vl));clear DA HEq HRq HAq HOq uR;have x0s:=N7.out.cell x0q HNQ.1;have x3s:=N7.out.cell x3q HNQ.1;have xqs:=N7.out.cell xqq HNQ.2.1;have acU:=N7.out.cell acV HNQ.2.2.1;have VL:=N7.out.cell acL HNQ.2.2.2;clear x0q x3q xqq acV acT acL a1 f1 N7;generalize Wq.setCell ⟨eb,1,none⟩ (ah vl)=Ws at *
 cases hlo:(l.getD r default).loop with
 |false=>
  rw[hlo]at VL;obtain rfl:v=vl:=by rw[Vv.out,hlo,if_neg aD]
  have vf:=ae Oh;have HVM:=ae aaV;clear hlo Vv acK hhd;go_upto_region 18 with fail;clear x0s x3s xqs acU VL;have a2:aE Ws eb 2 (.bool false):=QA.af rfl;have f2:Ws.frozen? ⟨eb,2,none⟩=false:=QA.free 2;go_upto_region 19 with fail;have DA:ag (ar eb) Ws (Ws.setCell ⟨eb,2,none⟩ (.bool true)):=(ag.aj (ar eb) Ws).setCell (p:=⟨eb,2,none⟩) (.inl (show ar eb eb from rfl)) _;have HEx:=aB (Box _ eb 148 (cY v true false)) (QA.store 2 (.bool true));have Yz:=ae<|DA.aq HRs (fun e=>by have h9:rb=eb:=e;have:=gz.out;omega);have HAx:=ae<|DA.aq HAs (HAs.off QA aD);have Mw:=ae<|HOs.setCell (p:=⟨eb,2,none⟩) (.inr gz.1) (.bool true);have Bs:=ae<|V0.mK QA jz DA;change Code.wp _ _ _ _ (Ws.setCell ⟨eb,2,none⟩ (.bool true));clear DA QA HRs HAs HOs V0;clear a2 f2;generalize Ws.setCell ⟨eb,2,none⟩ (.bool true)=Wx at *;exact qe
 |true=>
  rw[hlo]at VL;obtain rfl:v=vh:=by rw[Vv.out,hlo,if_pos rfl]
  have vf:=ae Oh;have HVM:=ae aaV;clear hlo Vv acK hhd;have a1:aw Ws eb 1 vl:=QA.af rfl;have f1:Ws.frozen? ⟨eb,1,none⟩=false:=QA.free 1;go_upto_region 18 with fail;have DA:ag (ar eb) Ws (Ws.setCell ⟨eb,1,none⟩ (ah v)):=(ag.aj (ar eb) Ws).setCell (p:=⟨eb,1,none⟩) (.inl (show ar eb eb from rfl)) _;have Re:=aB (Box _ eb 148 (cY v false false)) (QA.store 1 (ah v));have HRu:=ae<|DA.aq HRs (fun e=>by have h9:rb=eb:=e;have:=gz.out;omega);have HAu:=ae<|DA.aq HAs (HAs.off QA aD);have HOu:=ae<|HOs.setCell (p:=⟨eb,1,none⟩) (.inr gz.1) (ah v);have adh:=ae<|V0.mK QA jz DA;change Code.wp _ _ _ _ (Ws.setCell ⟨eb,1,none⟩ (ah v));clear DA QA HRs HAs HOs V0;clear a1 f1 x0s x3s xqs acU VL;generalize Ws.setCell ⟨eb,1,none⟩ (ah v)=Wu at *;have a2:aE Wu eb 2 (.bool false):=Re.af rfl;have f2:Wu.frozen? ⟨eb,2,none⟩=false:=Re.free 2;go_upto_region 19 with fail;have DA:ag (ar eb) Wu (Wu.setCell ⟨eb,2,none⟩ (.bool true)):=(ag.aj (ar eb) Wu).setCell (p:=⟨eb,2,none⟩) (.inl (show ar eb eb from rfl)) _;have HEx:=aB (Box _ eb 148 (cY v true false)) (Re.store 2 (.bool true));have Yz:=ae<|DA.aq HRu (fun e=>by have h9:rb=eb:=e;have:=gz.out;omega);have HAx:=ae<|DA.aq HAu (HAu.off Re aD);have Mw:=ae<|HOu.setCell (p:=⟨eb,2,none⟩) (.inr gz.1) (.bool true);have Bs:=ae<|adh.mK Re jz DA;change Code.wp _ _ _ _ (Wu.setCell ⟨eb,2,none⟩ (.bool true));clear DA Re HRu HAu HOu adh;clear a2 f2;generalize Wu.setCell ⟨eb,2,none⟩ (.bool true)=Wx at *;exact qe
end
def abY (S:Nat→List Int)(n:Nat)(w:World)(v i:Value)(wr:World):Prop:=
 ∃k:Nat,k≤n∧i=ah k∧aF 3 wr w.heap.size v (cW S k)∧ag az w wr
theorem dr.len {l:List aS}{O:Nat→Nat→Int}{t:Nat}{S:Nat→List Int}(h:dr l O t S){k:Nat}(hk:k≤l.length):(cW S k).length≤64:=by
 have h1:(cW S k).length≤((List.range 64).map Int.ofNat).length:=pN (h.KW k hk) fun x hx=>by
  obtain⟨r,_,h2⟩:=(uB S x k).1 hx;have:=(h.at_ h2).2.2;exact List.mem_map.2 ⟨x.toNat,List.mem_range.2 ao,by simp;omega⟩
 simpa using h1
section
variable {j:Ga}{l:List aS}{O:Nat→Nat→Int}{S:Nat→List Int}{w:World}{blocks:Int}
theorem WE (h:JN j l O S w)(hI:dr l O j.t S)(hP:dY blocks l):
 Calls Tryz.prog 62 #[aO j.pb] w fun e w'=>∃v,e= .returned v∧aF 3 w' w.heap.size v (cW S l.length)∧ag az w w':=by
 obtain⟨qv,hA⟩:=h;have F2:=hP.2.2;have HA:=ae hA;have nA:=ae<|fun k (hk:k≤l.length)=>hI.len hk;obtain⟨VA,vc,elv,_,_⟩:=hA.row.shape;rw[xn]at elv;have HEL:=ae elv;clear hA hI hP elv
 go_enter Tryz.func62,Tryz.ntmps62
 go_upto_region 3 with fail
 go_loopw [3,4] (fun v i wr=>abY S l.length w v i wr) (fun _ i _=>l.length - (intOf i).toNat)
 case atStart=>exact⟨0,dT _,rfl,aF.nil _ _ _,ag.aj _ _⟩
 case round=>
  obtain⟨k,hk,rfl,bF,ho⟩:=hrel;have HL:=ae bF;have HO:=ae ho;have x3:aE wr j.pb 3 (.slice VA l.length vc):=(HA.keep ho).c3.trans (by rw[HEL.out])
  by_cases aY:k<l.length
  ·have iV:(k:Int)<l.length:=ao;have bL:=ae aY;obtain⟨g,c,e,hq,_⟩:=(HA.keep ho).cq aY;rw[HEL.out]at e;injection e with e e2;subst e;obtain⟨A,c2,eq,h1,h2⟩:=(HA.q k aY).shape;have HQ:=ae<|(HA.keep ho).q k aY;have Gd:=ae (show(cW S k).length+(S k).length≤1000000 by
    have h1:=nA.out (k+1) ao;rw[iu,List.length_append]at h1;omega)
   clear bF ho aY hk eq h1 h2;go_wp2_with (at_builtin;refine lp _ rfl (.tmp 14) (.tmp 21) 61 3 rfl iD Tryz.underlying61 w.heap.size u3 (cW S k) rfl HL j.B (qv k) (S k) rfl HQ Gd HO.size ?_;intro v2 W2 h3 h4;have CS:=ae h3;have bf:=ae<|HO.aC h4 fun q hq=>.inr (HL.lt q hq).1;clear h3 h4)
   go_roundw
   case rel=>exact⟨k+1,bL,by push_cast;rfl,by rw[iu];exact CS,bf⟩
   case measure=>simp[intOf];have:=bL.out;omega
  ·obtain rfl:k=l.length:=ao;clear aY hk bF ho;go_wp2;go_ret;exact⟨_,rfl,HL,HO⟩
end
def NZ (A:Option Addr)(n c ob:Nat)(t1:Int)(v:Value):Array Value:=#[.slice A n c,aU ob (n*4) (n*4),ah t1,v]
def abX (A:Option Addr)(n c ob pb:Nat)(t1:Int)(w W:World)(i:Value)(wr:World):Prop:=
 ∃(k:Nat) (v:Value),k≤n∧i=ah k∧Box wr pb 171 (NZ A n c ob t1 v)∧Row 61 wr v (List.replicate k aJ)∧(∀g,aK v g→W.heap.size≤g)∧ag (ar pb) W wr
def ED (A:Option Addr)(c:Nat)(l:List aS)(q:Nat→Int)(t:Nat)(w:World)(e:Ending)(w':World):Prop:=
 ∃j:Ga,e= .returned (aO j.pb)∧JN j l (eW l q) (fun _=>[]) w'∧j.A=A∧j.t=t∧j.B=w'.heap.size∧w.heap.size≤j.pb∧w.heap.size≤j.ob∧(∀k,aK j.lv k→w.heap.size≤k)∧ag az w w'
section
theorem WB {A:Option Addr}{n c:Nat}{l:List aS}{q:Nat→Int}{blocks:Int}{t:Nat}(w:World)(bw:aW w A n c l)(hP:dY blocks l)(hq:∀t,t<3→0≤q t∧q t≤16)(ht:t<3):
 Calls Tryz.prog 69 #[.slice A n c,.agg (gB q),ah ((t+1:Nat):Int)] w (ED A c l q t w):=by
 obtain rfl:=bw.len;have F2:=hP.2.2;have HP:=ae hP;have HQ:=ae hq;have kx:=ae bw;have HT:=ae ht;obtain⟨t1,Mk⟩:∃t1:Int,t1=((t+1:Nat):Int):=⟨_,rfl⟩;rw[←Mk];have NR:=ae Mk;have yq:=ae<|(ag.aj az w).alloc (.cells (gB q) 22);have HC0:=ae<|Box.fresh w 22 (gB q);clear hP hq bw ht Mk
 go_enter Tryz.func69,Tryz.ntmps69
 go_upto_region 1 with fail;change Code.wp _ _ _ _ (w.alloc (.cells (gB q) 22));have HPA:=ae<|Cg (w.alloc (.cells (gB q) 22)) (kx.aA yq fun _ _=>id) HP HQ;generalize w.alloc (.cells (gB q) 22)=W0 at *;generalize w.heap.size=cb at *;go_upto_region 3 with(first|(refine fH (gB q) HC0 Tryz.underlying22 ?_)|(go_at_call 85;refine HPA.mono ?_;rintro e W1 ⟨ob,rfl,hb,Mm,ho⟩;have bU:=ae hb;have CT:=ae Mm;have aX:=ae ho;clear hb Mm ho));change Code.wp _ _ _ _ (W1.alloc (.cells (NZ A l.length c ob t1 aJ) 171));have bp:ag az W1 (W1.alloc (.cells (NZ A l.length c ob t1 aJ) 171)):=(ag.aj az W1).alloc _;have HB:=ae<|Box.fresh W1 171 (NZ A l.length c ob t1 aJ);have HPB:=ae<|bp.aq bU id;have HO:=ae<|(yq.trans aX).trans bp;have HH:=ae<|kx.aA HO fun _ _=>id;have HZ:=aB (w.heap.size≤W1.heap.size∧w.heap.size≤ob∧ob<W1.heap.size) (⟨(yq.trans aX).size,Nat.le_trans yq.size CT,bU.lt⟩);clear bU yq aX CT HC0 HPA bp;generalize W1.alloc (.cells (NZ A l.length c ob t1 aJ) 171)=W2 at *;generalize W1.heap.size=pb at *;have Yv:=aB (w.heap.size≤W2.heap.size) (HO.size)
 go_loopw [8] (fun iv wr=>abX A l.length c ob pb t1 w W2 iv wr) (fun iv _=>l.length - (intOf iv).toNat)
 case atStart=>exact⟨0,_,dT _,rfl,HB,Row.vK _ _,fun g hg=>(a7 hg).elim,ag.aj _ _⟩
 case round=>
  clear HB;obtain⟨k,v,hk,rfl,hb,hr,hf,ho⟩:=hrel;have HB:=ae hb;have kf:=ae ho;have HR:=ae hr;have HF:=ae hf;have x3:aE wr pb 3 v:=hb.af rfl;have f3:wr.frozen? ⟨pb,3,none⟩=false:=hb.free 3;clear hb hr hf ho
  by_cases aY:k<l.length
  ·have iV:(k:Int)<l.length:=ao;have bL:=ae aY;have hkk:k<8:=ao;clear aY hk;go_wp2_with (at_builtin;refine cy _ rfl (.tmp 26) (.tmp 27) 169 61 rfl SI rfl Tryz.underlying169 v (List.replicate k aJ) rfl (HR.aA ((ag.aj az wr).alloc _) fun _ _=>id) (some ⟨wr.heap.size,0,none⟩) 1 1 [aJ] rfl rfl (Fy wr _ _) a6 (by simp[maxLen];omega) (by simp;omega) ?_;intro v2 w2 wB bp QL _;obtain⟨A2,c2,e2,_,_⟩:=wB.shape;rw[show(List.replicate k (Value.slice none 0 0) ++ [Value.slice none 0 0]).length=k+1 by simp]at e2;subst e2;have cO:=ae<|bp.aq (((ag.aj az wr).alloc (.cells #[aJ] 61)).aq HB id) (fun hk=>by obtain⟨cs,h9⟩:=HR.aq hk;exact(h9.off HB aD) rfl);have iw:=ae wB;have bf:=ae<|(kf.alloc (.cells #[aJ] 61)).aC bp fun g hg=>.inr (HF g hg);have lG:=aB (∀g,aK (.slice A2 (k+1) c2) g→W2.heap.size≤g) (fun g hg=>(QL g hg).elim (HF g) fun h=>by have:=kf.size;rw[World.size_alloc]at h;omega);have z3:=cO.af (i:=3) rfl;have zf:=cO.free 3;clear wB bp QL)
   go_roundw
   case rel=>
    have iK:ag (ar pb) w2 (w2.setCell ⟨pb,3,none⟩ (.slice A2 (k+1) c2)):=(ag.aj (ar pb) w2).setCell (p:=⟨pb,3,none⟩) (.inl (show ar pb pb from rfl)) _;refine⟨k+1,.slice A2 (k+1) c2,bL,by push_cast;rfl,cO.store 3 (.slice A2 (k+1) c2),?_,lG,bf.setCell (p:=⟨pb,3,none⟩) (.inl (show ar pb pb from rfl)) _⟩;exact lX
   case measure=>simp[intOf];have:=bL.out;omega
  ·obtain rfl:k=l.length:=ao;clear aY hk;go_wp2;go_ret;have h1:=HZ.out;have h2:=Yv.out;have h4:=kf.size;have gX:=HB.out;refine⟨⟨pb,v,ob,A,c,t,wr.heap.size⟩,rfl,⟨fun _=>aJ,⟨?_,?_,fun _ _=>aF.nil _ _ _,HH.off kf fun h0 k o e e2=>(by have h9:k=pb:=e2;have h8:=kx.blk h0 e;omega),kf.aq HPB (fun e2=>by have h9:ob=pb:=e2;omega),HT,HB.lt,fun g hg=>HR.lt hg,by have:=HB.lt;dsimp only;omega,fun h0 k o e=>⟨?_,?_⟩,dm _⟩⟩,rfl,rfl,rfl,h1.1,h1.2.1,fun g hg=>Nat.le_trans h2 (HF g hg),HO.aC kf fun k hk=>.inr (by have h9:k=pb:=hk;omega)⟩
   ·show Box wr pb _ (NZ A l.length c ob ((t+1:Nat):Int) v)
    rw[←NR.out];exact gX
   ·have h6:=HR.out;rw[show List.replicate l.length (Value.slice none 0 0)=Gi l.length (fun _=>aJ) by simp[Gi,List.map_const']]at h6;exact h6
   ·exact Nat.lt_of_lt_of_le (kx.blk h0 e) (Nat.le_trans h2 h4)
   ·intro hk;have h7:=HF.out k hk;have h8:=kx.blk h0 e;omega
end
theorem zy {P:Program}(w:World)(t ty e:TypeId){z:Value}{size bytes c:Nat}(eP:(P.info? e).map (fun i=>(i.zero,i.size,i.bytes))=some (some z,size,bytes))(ht:P.underlying t=some (.slice e)):
 (Builtin.append_ #[t,t] ty #[aJ,.slice none 0 c]).run P w= .ok aJ w:=by
 obtain⟨i,hi,hz,hs,kv⟩:=info_parts eP;simp[Builtin.append_,run_underlying ht,sizeOf,typeInfo,hi,Builtin.lenOf,Builtin.firstCells,loadCells,loadCellsFrom]
theorem CD {P:Program}(w:World){ops:Array Oper}{rest:List Oper}{o:Oper}{a:Act}{Q:Exit→Act→World→Prop}(wC:o.guard=none)(s x:Operand)(t e:TypeId)
 (ho:o.op= .call {callee:=.builtin .append,args:=#[s,x],argTypes:=#[t,t]}) {z:Value} {size bytes c:Nat}
 (eP:(P.info? e).map (fun i=>(i.zero,i.size,i.bytes))=some (some z,size,bytes)) (ht:P.underlying t=some (.slice e))
 (hs:a.eval s=aJ) (hx:a.eval x= .slice none 0 c) (h:wpList P ops Q rest (a.put o.dst aJ) w):wpList P ops Q (o :: rest) a w:=by
 have hr:=zy (P:=P) (c:=c) w t o.type e eP ht;refine wpList_plain wC fun K hK=>?_
 unfold Oper.wp execOp;simp only[ho,resolve,invoke,builtin,Sem.run_bind,Sem.run_pure,Result.andThen_ok,List.map_toArray,List.map_cons,List.map_nil,hs,hx,hr];exact hK _ _ h
def JZ:aM:=⟨fun _=>0,[]⟩
theorem mQ (c:aM)(A:Option Addr)(n m:Nat):(ak c (.slice A n m)).all (·.oneCell')=true:=by simp[ak,Value.oneCell']
def X4 (c:aM)(w:World)(e:Ending)(w':World):Prop:=
 ∃A m,e= .returned (.agg (ak c (.slice A c.h.length m)))∧aW w' A c.h.length m c.h∧(∀k,aK (.slice A c.h.length m) k→w.heap.size≤k)∧ag az w w'
section
theorem Ip {A:Option Addr}{n cp:Nat}{c:aM}(w:World)(bw:aW w A n cp c.h)(hl:c.h.length≤100):
 Calls Tryz.prog 34 #[.agg (ak c (.slice A n cp))] w (X4 c w):=by
 obtain rfl:=bw.len;have kx:=ae bw;have HL:=ae hl;have yq:=ae<|(ag.aj az w).alloc (.cells (ak c (.slice A c.h.length cp)) 25);have Vy:=ae<|Box.fresh w 25 (ak c (.slice A c.h.length cp));clear bw hl
 go_enter Tryz.func34,Tryz.ntmps34
 go_upto_region 1 with fail;change Code.wp _ _ _ _ ((w.alloc (.cells (ak c (.slice A c.h.length cp)) 25)).alloc (.cells (ak JZ aJ) 25));have hsz:(w.alloc (.cells (ak c (.slice A c.h.length cp)) 25)).heap.size=w.heap.size+1:=World.size_alloc ..;generalize w.alloc (.cells (ak c (.slice A c.h.length cp)) 25)=W0 at *;obtain⟨cb,fL⟩:∃cb,cb=w.heap.size:=⟨_,rfl⟩;have Db:=aB (w.heap.size≤cb) (Nat.le_of_eq fL.symm);rw[←fL]at Vy hsz ⊢;clear fL;have aR:ag az W0 (W0.alloc (.cells (ak JZ aJ) 25)):=(ag.aj az W0).alloc _;have b5:=ae<|Box.fresh W0 25 (ak JZ aJ);have bU:=ae<|aR.aq Vy id;have aX:=ae<|yq.trans aR;have Vu:=ae<|kx.aA aX fun _ _=>id;clear aR Vy yq;generalize W0.alloc (.cells (ak JZ aJ) 25)=W1 at *;rw[hsz]at b5;clear hsz;have yu:=aB (cb+1≠cb∧w.heap.size≤cb+1) (⟨ao,by have:=Db.out;omega⟩);generalize cb+1=rb at *;have y16:aE W1 cb 16 (.slice A c.h.length cp):=bU.af rfl;have f16:W1.frozen? ⟨cb,16,none⟩=false:=bU.free 16
 cases A with
 |none=>
  have h0:c.h.length=0:=by
   rcases Nat.eq_zero_or_pos c.h.length with h|h
   ·exact h
   ·obtain⟨g,o,e,_⟩:=Vu.at_ 0 h
    cases e
  have H0:=ae h0;rw[h0]at y16;clear h0;go_upto_region 4 with(at_builtin;refine CD _ rfl (.tmp 4) (.tmp 6) 23 76 rfl B3 Tryz.underlying23 rfl rfl ?_);have cI:ag (ar cb) W1 (W1.setCell ⟨cb,16,none⟩ aJ):=(ag.aj (ar cb) W1).setCell (p:=⟨cb,16,none⟩) (.inl (show ar cb cb from rfl)) _;have iM:=aB (Box _ cb 25 (ak c aJ)) (bU.store 16 aJ);have jc:=ae<|cI.aq b5 yu.1;have MB:=aB (aW _ none c.h.length 0 c.h) (((show Hid (aW W1 none c.h.length 0 c.h)from ae ⟨rfl,by rw[H0.out];exact dm _,dT _,fun i hi=>by have:=H0.out;omega⟩).out.off cI fun h0 k o e e2=>(by have:=H0.out;omega)));have bK:=ae<|aX.setCell (p:=⟨cb,16,none⟩) (.inr Db) aJ;change Code.wp _ _ _ _ (W1.setCell ⟨cb,16,none⟩ aJ);clear cI;generalize W1.setCell ⟨cb,16,none⟩ aJ=W4 at *;go_wp2_with (first|(refine fH (ak c aJ) iM Tryz.underlying25 ?_)|(refine fJ (ak c aJ) jc (mQ _ _ _ _) ?_))
  (try simp only[Exit.inBlock,Exit.then])
  refine bodyPost_ret (results_cell_row rfl _ _ rb _ (ak c aJ) (0,0) _ rfl (jc.au _) Tryz.underlying25 rfl bZ) rfl ?_;have iK:ag (ar rb) W4 (W4.setRow rb (ak c aJ)):=(ag.aj (ar rb) W4).au (.inl rfl) _;exact⟨none,0,by rw[H0.out],MB.off iK (fun h0=>by have:=H0.out;omega),fun k hk=>(a7 hk).elim,bK.au (.inr yu.2) _⟩
 |some ad=>
  obtain⟨i0,hi,hz,hsz,kv⟩:=info_parts B3;have mI:=aB (W1.ownsRow W1.heap.size 76 4 aJ 0 []) (⟨rfl,.inl ⟨rfl,rfl⟩⟩);have HCE:=ae<|Vu.cells ad rfl;have HON:=aB (∀u∈c.h.flatMap hC,u.oneCell'=true) (fun u hu=>by
   obtain⟨p,hp,hu⟩:=List.mem_flatMap.1 hu;simp[hC]at hu;rcases hu with rfl|rfl|rfl|rfl<;>rfl)
  have HI:=ae hi;have HZ:=ae hz;have HS:=ae hsz;have HBY:=ae kv;clear hi hz hsz kv;go_upto_region 3 with(at_builtin;refine wpList_append_own_at W1 rfl (.tmp 4) (.tmp 6) 23 rfl W1.heap.size 76 i0 _ 4 32 Tryz.underlying23 HI HZ HS HBY rfl aD _ 0 [] rfl mI ad c.h.length cp (c.h.flatMap hC) rfl (zq c.h) HCE HON mz gO (dm _) ?_;intro v' w1 h2 h3 h4 h5;rw[Nat.zero_add,List.nil_append]at h2;obtain⟨A3,m3,rfl,hh⟩:=Co h2;have HH3:=ae hh;have jE:=ae<|fun k hk=>(World.ownsRow.lt h2 k hk).1;have bn:=aB (ag az W1 w1) ((ag.aj az W1).grown h3 fun k hk=>by cases hk);clear h2 h3 h4 h5 hh);have dM:=ae<|bn.aq bU id;have iR:=ae<|bn.aq b5 id;have afV:=ae<|aX.trans bn;have bL:=aB (cb<W1.heap.size∧rb<W1.heap.size∧w.heap.size≤W1.heap.size) (⟨bU.lt,b5.lt,aX.size⟩);have g16:aE w1 cb 16 (.slice (some ad) c.h.length cp):=dM.af rfl;have gf:w1.frozen? ⟨cb,16,none⟩=false:=dM.free 16;clear bU b5 y16 f16 mI HCE;go_upto_region 4 with fail;have cI:ag (ar cb) w1 (w1.setCell ⟨cb,16,none⟩ (.slice A3 c.h.length m3)):=(ag.aj (ar cb) w1).setCell (p:=⟨cb,16,none⟩) (.inl (show ar cb cb from rfl)) _;have iM:=aB (Box _ cb 25 (ak c (.slice A3 c.h.length m3))) (dM.store 16 (.slice A3 c.h.length m3));have jc:=ae<|cI.aq iR yu.1;have MB:=aB (aW _ A3 c.h.length m3 c.h) ((HH3.off cI fun h0 k o e e2=>(by have h9:k=cb:=e2;have:=jE.out k gR;have:=bL.1;omega)));have bK:=ae<|afV.setCell (p:=⟨cb,16,none⟩) (.inr Db) (.slice A3 c.h.length m3);change Code.wp _ _ _ _ (w1.setCell ⟨cb,16,none⟩ (.slice A3 c.h.length m3));clear cI;generalize w1.setCell ⟨cb,16,none⟩ (.slice A3 c.h.length m3)=W4 at *;go_wp2_with (first|(refine fH (ak c (.slice A3 c.h.length m3)) iM Tryz.underlying25 ?_)|(refine fJ (ak c (.slice A3 c.h.length m3)) jc (mQ _ _ _ _) ?_))
  (try simp only[Exit.inBlock,Exit.then])
  refine bodyPost_ret (results_cell_row rfl _ _ rb _ (ak c (.slice A3 c.h.length m3)) (0,0) _ rfl (jc.au _) Tryz.underlying25 rfl bZ) rfl ?_;have iK:ag (ar rb) W4 (W4.setRow rb (ak c (.slice A3 c.h.length m3))):=(ag.aj (ar rb) W4).au (.inl rfl) _;exact⟨A3,m3,rfl,MB.off iK (fun h0 k o e e2=>by have h9:k=rb:=e2;have:=jE.out k gR;have:=bL.2.1;omega),fun k hk=>Nat.le_trans bL.2.2 (jE k hk),bK.au (.inr yu.2) _⟩
end
def mS (c:aM)(hv:Value)(bc:Int)(lv mp pp dv:Value):Array Value:=ak c hv ++ #[ah bc,lv,mp,pp,dv]
section
variable {c:aM}{hv lv mp pp dv:Value}{bc:Int}{w:World}{cb:Nat}
theorem ng (hb:Box w cb 118 (mS c hv bc lv mp pp dv)){i:Nat}(hi:i<16):aw w cb i (c.f i):=by
 refine hb.af ?_;unfold mS;exact lY
theorem YP (hb:Box w cb 118 (mS c hv bc lv mp pp dv)):aw w cb 17 bc:=hb.af rfl
theorem Sg (hb:Box w cb 118 (mS c hv bc lv mp pp dv)):aE w cb 18 lv:=hb.af rfl
theorem xh (hb:Box w cb 118 (mS c hv bc lv mp pp dv)):aE w cb 19 mp:=hb.af rfl
theorem vj (hb:Box w cb 118 (mS c hv bc lv mp pp dv)):aE w cb 20 pp:=hb.af rfl
theorem adR (hb:Box w cb 118 (mS c hv bc lv mp pp dv)):aE w cb 21 dv:=hb.af rfl
end
def DT (base:Nat)(L:List Int)(w:World)(e:Ending)(w':World):Prop:=∃v,e= .returned v∧aF 3 w' base v L∧ag az w w'
section
variable {c:aM}{hv lv dv:Value}{bc:Int}{w:World}{cb base:Nat}{L:List Int}
theorem Tz (hb:Box w cb 118 (mS c hv bc lv (.pointer none) (.pointer none) dv))(h:aF 3 w base lv L):
 Calls Tryz.prog 28 #[aO cb] w (DT base L w):=by
 obtain⟨A,n,rfl,_,_⟩:=h.shape;have H:=ae h;have x1:=Sg hb;have x2:=xh hb;have x3:=vj hb;clear hb h
 go_enter Tryz.func28,Tryz.ntmps28
 go_wp2_with fail;go_ret;exact⟨_,rfl,H,ag.aj _ _⟩
theorem AJ {j:lr}{P:dN}{s:dB}(hb:Box w cb 118 (mS c hv bc lv (aO j.mb) (.pointer none) dv))(h:mE j P s w)(cD:fi P s)(hP:P.Ok):
 Calls Tryz.prog 28 #[aO cb] w (DT w.heap.size (aV P s) w):=by
 have H:=ae<|WJ h cD hP;have x2:=xh hb;have x3:=vj hb;clear hb h cD hP
 go_enter Tryz.func28,Tryz.ntmps28
 go_wp2_with (go_at_call 63;refine H.mono ?_;rintro e W1 ⟨v,rfl,h1,h2⟩);go_ret;exact⟨_,rfl,h1,h2⟩
theorem Ty {j:Ga}{l:List aS}{O:Nat→Nat→Int}{S:Nat→List Int}{blocks:Int}{mp:Value}(hb:Box w cb 118 (mS c hv bc lv mp (aO j.pb) dv))(h:JN j l O S w)(hI:dr l O j.t S)(hP:dY blocks l):
 Calls Tryz.prog 28 #[aO cb] w (DT w.heap.size (cW S l.length) w):=by
 have H:=ae<|WE h hI hP;have x3:=vj hb;clear hb h hI hP
 go_enter Tryz.func28,Tryz.ntmps28
 go_wp2_with (go_at_call 62;refine H.mono ?_;rintro e W1 ⟨v,rfl,h1,h2⟩);go_ret;exact⟨_,rfl,h1,h2⟩
theorem Fg {b:Int}(h:Calls Tryz.prog 28 #[aO cb] w (DT base L w)):
 Calls Tryz.prog 43 #[aO cb,ah b] w fun e w'=>e= .returned (.bool (decide (b∈L)))∧ag az w w':=by
 have H:=ae h;clear h
 go_enter Tryz.func43,Tryz.ntmps43
 go_wp2_with (first|(go_at_call 28;refine H.mono ?_;rintro e W1 ⟨v,rfl,h1,h2⟩;obtain⟨A,n,rfl,pA,kC⟩:=h1.shape;have HH:=ae<|fS A n _ L b W1 h1.at (Nat.le_trans pA kC);have HO:=ae h2;clear h1 h2 pA kC)|(go_at_call 20;refine HH.mono ?_;rintro e W2 ⟨rfl,rfl⟩));go_ret;exact⟨rfl,HO⟩
end
section
variable {c:aM}{hv lv mp dv:Value}{bc kd b v:Int}{g was:Bool}{w:World}{cb:Nat}{j:Ga}{l:List aS}{O:Nat→Nat→Int}{S':Nat→List Int}
theorem WL (hb:Box w cb 118 (mS c hv bc lv mp (aO j.pb) dv))(hB:j.B≤w.heap.size)(hr:∀k,aK j.lv k→k<j.B∧k≠cb)
 (hD:∀w',ag az w w'→Calls Tryz.prog 111 #[aO j.pb,.agg #[ah kd,ah b]] w' (E8 j l O S' v g was w')):
 Calls Tryz.prog 82 #[aO cb,.agg #[ah kd,ah b]] w (E8 j l O S' v g was w):=by
 have HB:=ae hb;have HD:=ae hD;have HJ:=ae hB;have fv:=ae hr;have nG:=ae<|Box.fresh w 151 #[ah kd,ah b];have yq:=ae<|(ag.aj az w).alloc (.cells #[ah kd,ah b] 151);clear hb hD hB hr
 go_enter Tryz.func82,Tryz.ntmps82
 go_upto_region 1 with fail;change Code.wp _ _ _ _ ((w.alloc (.cells #[ah kd,ah b] 151)).alloc (.cells (cY 0 false false) 148));have hsz:(w.alloc (.cells #[ah kd,ah b] 151)).heap.size=w.heap.size+1:=World.size_alloc ..;generalize w.alloc (.cells #[ah kd,ah b] 151)=W0 at *;obtain⟨ab,ic⟩:∃ab,ab=w.heap.size:=⟨_,rfl⟩;rw[←ic]at nG hsz ⊢;have oI:=aB (w.heap.size≤ab) (Nat.le_of_eq ic.symm);clear ic;have aR:ag az W0 (W0.alloc (.cells (cY 0 false false) 148)):=(ag.aj az W0).alloc _;have b5:=ae<|Box.fresh W0 148 (cY 0 false false);have eV:=ae<|aR.aq nG id;have aX:=ae<|yq.trans aR;clear aR nG yq;generalize W0.alloc (.cells (cY 0 false false) 148)=W1 at *;rw[hsz]at b5;clear hsz;have eQ:=ae (show w.heap.size≤ab+1 by have:=oI.out;omega);generalize ab+1=rb at *;have zG:=aB (¬aK j.lv cb∧¬aK j.lv ab∧¬aK j.lv rb) (⟨fun h=>(fv _ h).2 rfl,fun h=>by have:=(fv _ h).1;have:=HJ.out;have:=oI.out;omega,fun h=>by have:=(fv _ h).1;have:=HJ.out;have:=eQ.out;omega⟩);have x3:=vj (aX.aq HB id);go_upto_region 2 with fail;have k1:aE W1.drew cb 20 (aO j.pb):=x3;have k2:Box W1.drew ab 151 #[ah kd,ah b]:=eV.out;refine dU (fun w':World=>aE w' cb 20 (aO j.pb)∧Box w' ab 151 #[ah kd,ah b]) 6 fun aH=>?_
 refine bX [0,1,2,3] ?_;refine cj (i:=4) (v:=.agg #[ah kd,ah b]) bZ rfl bZ (fun _ _ _ h=>h) (yieldsIf_load_mid (by rfl) 151 _ rfl ab 0 rfl (#[Value.int .i64 kd,ah b]:Array Value).toList _ (fun w hw j v hj=>by rw[Nat.zero_add];exact hw.2.af (by rw[←Array.getElem?_toList];exact hj)) Tryz.underlying151 rfl bZ) (by assumption) ?_;refine CW ?_;refine cM 5 fun Kc hK=>?_
 go_simp;refine(HD W1.drew ((aX).drew)).mono ?_;rintro e W2 ⟨rfl,h1,h2⟩;have iw:=ae h1;have bf:=ae<|(ag.aj (aK j.lv) W1).drew.trans h2;have k1:=h2.cell aH.1 zG.1;have k2:=h2.aq aH.2 zG.2.1;clear h1 h2;refine eh hK fun aH=>?_
 clear hK;refine cG ?_;have iR:=ae<|bf.aq b5 zG.2.2;have bn:=ae<|(aX.mono fun _ hb=>hb.elim).trans bf;clear aH k1 k2 x3;refine fJ (cY v g was) iR (mO _ _ _) ?_;go_wp2
 (try simp only[Exit.inBlock,Exit.then])
 refine bodyPost_ret (results_cell_row rfl _ _ rb _ (cY v g was) (0,0) _ rfl (iR.au _) Tryz.underlying148 rfl bZ) rfl ?_;have iK:ag (ar rb) W2 (W2.setRow rb (cY v g was)):=(ag.aj (ar rb) W2).au (.inl rfl) _;obtain⟨qv,hq⟩:=iw.out;exact⟨rfl,⟨qv,hq.mK iR (by have:=HJ.out;have:=eQ.out;omega) iK⟩,bn.au (.inr eQ) _⟩
end
def afu (c:aM)(hv:Value)(bc:Int)(dv:Value)(cb base:Nat)(L':List Int)(v:Int)(g was:Bool)(w:World)(e:Ending)(w':World):Prop:=
 ∃A n m,e= .returned (.agg (eU (.slice A n m) v g was 0))∧aF 3 w' base (.slice A n m) L'∧Box w' cb 118 (mS c hv bc (.slice A n m) (.pointer none) (.pointer none) dv)∧ag (ar cb) w w'
section
variable {c:aM}{hv lv dv:Value}{kd b v:Int}{g was:Bool}{w:World}{cb base k:Nat}{L L':List Int}
theorem rF{P:Prop}(h:P:=by
 refine fJ (eU (.slice A2 n2 m2) v g was 0) HEt (k8 _ _ _ _ _ _ _) ?_;go_upto_region 5 with fail;have hse:ag (ar eb) Wt (Wt.setRow eb (eU (.slice A2 n2 m2) v g was 0)):=(ag.aj (ar eb) Wt).au (.inl rfl) _;have Re:=ae<|HEt.au (eU (.slice A2 n2 m2) v g was 0);have HRu:=ae<|hse.aq Qv yu;have HBu:=ae<|hse.aq HBt (HBt.off HEt aD);have HVu:=ae (HVt.aA hse fun g hg e=>by
  obtain⟨cs,h9⟩:=HVt.fQ hg;exact(h9.off HEt aD) e)
 have HOu:=ae<|HOt.au (.inr gz) (eU (.slice A2 n2 m2) v g was 0);change Code.wp _ _ _ _ (Wt.setRow eb (eU (.slice A2 n2 m2) v g was 0));clear hse HEt Qv HBt HVt HOt;generalize Wt.setRow eb (eU (.slice A2 n2 m2) v g was 0)=Wu at *;have y0:aE Wu eb 0 (.slice A2 n2 m2):=Re.af rfl;have y18:=Sg HBu;have f18:Wu.frozen? ⟨cb,18,none⟩=false:=HBu.free 18;go_upto_region 6 with fail;have hsc:ag (ar cb) Wu (Wu.setCell ⟨cb,18,none⟩ (.slice A2 n2 m2)):=(ag.aj (ar cb) Wu).setCell (p:=⟨cb,18,none⟩) (.inl (show ar cb cb from rfl)) _;have HBw:=aB (Box _ cb 118 (mS c hv ((k+1:Nat):Int) (.slice A2 n2 m2) (.pointer none) (.pointer none) dv)) (HBu.store 18 (.slice A2 n2 m2));have HEw:=ae<|hsc.aq Re (Re.off HBu aD);have HRw:=ae<|hsc.aq HRu (HRu.off HBu aD);have HVw:=ae (HVu.aA hsc fun g hg e=>by
  obtain⟨cs,h9⟩:=HVu.fQ hg;exact(h9.off HBu aD) e)
 have Mx:=aB (ag (ar cb) w _) (((HOu.mono fun _ hb=>hb.elim:ag (ar cb) w Wu)).trans hsc);change Code.wp _ _ _ _ (Wu.setCell ⟨cb,18,none⟩ (.slice A2 n2 m2));clear hsc Re HRu HBu HVu HOu y0 y18 f18;generalize Wu.setCell ⟨cb,18,none⟩ (.slice A2 n2 m2)=Ww at *;go_wp2_with (first|(refine fH (eU (.slice A2 n2 m2) v g was 0) HEw Tryz.underlying148 ?_)|(refine fJ (eU (.slice A2 n2 m2) v g was 0) HRw (k8 _ _ _ _ _ _ _) ?_))
 (try simp only[Exit.inBlock,Exit.then])
 refine bodyPost_ret (results_cell_row rfl _ _ rb _ (eU (.slice A2 n2 m2) v g was 0) (0,0) _ rfl (HRw.au _) Tryz.underlying148 rfl bZ) rfl ?_;have iK:ag (ar rb) Ww (Ww.setRow rb (eU (.slice A2 n2 m2) v g was 0)):=(ag.aj (ar rb) Ww).au (.inl rfl) _;exact⟨A2,n2,m2,rfl,HVw.aA iK fun g hg e=>(by
  obtain⟨cs,h9⟩:=HVw.fQ hg;exact(h9.off HRw aD) e),iK.aq HBw (HBw.off HRw aD),Mx.au (.inr eQ) _⟩):P:=h
theorem gH{P:Prop}(h:P:=by
 exact⟨by first|exact aH.1.alloc _|exact kb|exact kb.alloc _|assumption,by first|exact aH.2.1.alloc _|exact ka|exact ka.alloc _|assumption,by first|exact aH.2.2.alloc _|exact ko|exact ko.alloc _|exact aX.drew⟩):P:=h
theorem WM (hk:k<3)(hb:Box w cb 118 (mS c hv ((k+1:Nat):Int) lv (.pointer none) (.pointer none) dv))(hl:aF 3 w base lv L)
 (hD:∀w',ag az w w'→Calls Tryz.prog 112 #[lv,ah (c.f (9+k)),.agg #[ah kd,ah b]] w' (yT base L' v g was w')):
 Calls Tryz.prog 82 #[aO cb,.agg #[ah kd,ah b]] w (afu c hv ((k+1:Nat):Int) dv cb base L' v g was w):=by
 obtain⟨A,m,rfl,_,_⟩:=hl.shape;have HB:=ae hb;have HD:=ae hD;have nG:=ae<|Box.fresh w 151 #[ah kd,ah b];have yq:=ae<|(ag.aj az w).alloc (.cells #[ah kd,ah b] 151);clear hb hD hl
 go_enter Tryz.func82,Tryz.ntmps82
 go_upto_region 1 with fail;change Code.wp _ _ _ _ ((w.alloc (.cells #[ah kd,ah b] 151)).alloc (.cells (cY 0 false false) 148));have hsz:(w.alloc (.cells #[ah kd,ah b] 151)).heap.size=w.heap.size+1:=World.size_alloc ..;generalize w.alloc (.cells #[ah kd,ah b] 151)=W0 at *;obtain⟨ab,ic⟩:∃ab,ab=w.heap.size:=⟨_,rfl⟩;rw[←ic]at nG hsz ⊢;have oI:=aB (w.heap.size≤ab) (Nat.le_of_eq ic.symm);clear ic;have aR:ag az W0 (W0.alloc (.cells (cY 0 false false) 148)):=(ag.aj az W0).alloc _;have b5:=ae<|Box.fresh W0 148 (cY 0 false false);have eV:=ae<|aR.aq nG id;have aX:=ae<|yq.trans aR;clear aR nG yq;generalize W0.alloc (.cells (cY 0 false false) 148)=W1 at *;rw[hsz]at b5;clear hsz;have eQ:=ae (show w.heap.size≤ab+1 by have:=oI.out;omega);generalize ab+1=rb at *;have bU:=ae<|aX.aq HB id;have x2:=xh bU;have x3:=vj bU;go_upto_region 4 with fail;have kb:Box W1.drew cb 118 (mS c hv ((k+1:Nat):Int) (.slice A L.length m) (.pointer none) (.pointer none) dv):=bU.out;have ka:Box W1.drew ab 151 #[ah kd,ah b]:=eV.out;have hwt:IntKind.i64.wrap (((k+1:Nat):Int) - 1)=k:=by rw[IntKind.wrap_i64];omega
 have hwk:IntKind.i64.wrap (k:Int)=k:=by rw[IntKind.wrap_i64];omega
 have ZK:(k:Int)<3:=ao;clear x2 x3;refine oa (fun w':World=>Box w' cb 118 (mS c hv ((k+1:Nat):Int) (.slice A L.length m) (.pointer none) (.pointer none) dv)∧Box w' ab 151 #[ah kd,ah b]∧ag az w w') 18 ?_ ?_
 ·exact gH
 intro aH;refine bX [0,1,2] ?_;refine cj (i:=3) (v:=.slice A L.length m) bZ rfl bZ (fun _ _ _ h=>h) (Or.inl ⟨by rfl,fun w hSw=>?_⟩) (by assumption) ?_
 ·have xx:=Sg hSw.1;clear hSw;go_simp
 refine CW ?_;refine bX [4,5,6,7] ?_;refine cj (i:=8) (v:=ah ((k+1:Nat):Int)) bZ rfl bZ (fun _ _ _ h=>h) (Or.inl ⟨by rfl,fun w hSw=>?_⟩) (by assumption) ?_
 ·have xx:=YP hSw.1;clear hSw;go_simp
 refine CW ?_;refine bX [9,10,11,12,13] ?_;refine cj (i:=14) (v:=ah (c.f (9+k))) bZ rfl bZ (fun _ _ _ h=>h) (Or.inl ⟨by rfl,fun w hSw=>?_⟩) (by assumption) ?_
 ·have xx:=ng hSw.1 (i:=9+k) ao;clear hSw;go_simp
 refine CW ?_;refine cj (i:=15) (v:=.agg #[ah kd,ah b]) bZ rfl bZ (fun _ _ _ h=>h) (yieldsIf_load_mid (by rfl) 151 _ rfl ab 0 rfl (#[Value.int .i64 kd,ah b]:Array Value).toList _ (fun w hw j v hj=>by rw[Nat.zero_add];exact hw.2.1.af (by rw[←Array.getElem?_toList];exact hj)) Tryz.underlying151 rfl bZ) (by assumption) ?_;refine CW ?_;refine il (i:=16) (j:=17) rfl rfl bZ (fun Kc hK=>?_) (fun Kc hK=>?_)
 ·go_simp;refine(HD _ aH.2.2).mono ?_;rintro e W2 ⟨A2,n2,m2,rfl,h1,h2⟩;have CS:=ae h1;have kb:=h2.aq aH.1 id;have ka:=h2.aq aH.2.1 id;have ko:=aH.2.2.trans h2;have kn:=ae h2;clear h1 h2;refine jS hK ?_ fun aH=>?_
  ·exact gH
  clear hK;refine cM 17 fun Kc hK=>?_
  go_simp;refine jS hK ?_ fun aH=>?_
  ·exact gH
  clear hK;refine cG ?_;have bu:ag az W2 (W2.alloc (.cells (cY 0 false false) 148)):=(ag.aj az W2).alloc _;have HEt:=ae<|Box.fresh W2 148 (cY 0 false false);have HVt:=ae<|CS.aA bu fun _ _=>id;have gz:=aB (w.heap.size≤W2.heap.size) (ko.size);have Qv:=ae<|(bu.aq (kn.out.aq (((ag.aj az W1).drew).aq b5 id) id) id);have yu:=aB (rb≠W2.heap.size) (Nat.ne_of_lt (kn.out.aq (((ag.aj az W1).drew).aq b5 id) id).lt);have HBt:=aB (Box (W2.alloc (.cells (cY 0 false false) 148)) _ _ _) (aH.1);have HOt:=aB (ag az w (W2.alloc (.cells (cY 0 false false) 148))) (aH.2.2);clear aH kb ka ko kn bu b5;change wpList _ _ _ _ _ (W2.alloc (.cells (cY 0 false false) 148));generalize W2.alloc (.cells (cY 0 false false) 148)=Wt at *;generalize W2.heap.size=eb at *;exact rF
 ·go_simp;refine jS hK ?_ fun aH=>?_
  ·exact gH
  clear hK;refine cM 16 fun Kc hK=>?_
  go_simp;refine(HD _ aH.2.2).mono ?_;rintro e W2 ⟨A2,n2,m2,rfl,h1,h2⟩;have CS:=ae h1;have kb:=h2.aq aH.1 id;have ka:=h2.aq aH.2.1 id;have ko:=aH.2.2.trans h2;have kn:=ae h2;clear h1 h2;refine jS hK ?_ fun aH=>?_
  ·exact gH
  clear hK;refine cG ?_;have HEt:=ae<|kn.out.aq (Box.fresh W1.drew 148 (cY 0 false false)) id;have HVt:=ae CS;have gz:=aB (w.heap.size≤W1.heap.size) (aX.size);have Qv:=ae<|kn.out.aq ((((ag.aj az W1).drew).alloc (.cells (cY 0 false false) 148)).aq b5 id) id;have yu:=aB (rb≠W1.heap.size) (Nat.ne_of_lt b5.lt);have HBt:=ae aH.1;have HOt:=ae aH.2.2;clear aH kb ka ko kn b5;generalize W2=Wt at *;have hWW:W1.drew.heap.size=W1.heap.size:=rfl;rw[hWW]at HEt;clear hWW;generalize W1.heap.size=eb at *;exact rF
end
theorem mE.Kq {j:lr}{P:dN}{s:dB}{w w':World}(h:mE j P s w){g:Nat}{cs:Array Value}{t:TypeId}(hb:Box w g t cs)(h1:173≠t)(h2:61≠t)(h3:3≠t)(ho:ag (ar g) w w'):mE j P s w':=by
 obtain⟨gv,qv,h⟩:=h;have nI:∀{v:Value} {l:List Int},aF 3 w j.B v l→∀k,aK v k→¬ar g k:=fun hv k hk e=>by
  obtain⟨c2,h4⟩:=hv.fQ hk;exact(h4.off hb h3) e
 refine⟨gv,qv,ho.aq h.aq (h.aq.off hb h1),h.row.aA ho fun k hk e=>?_,fun i hi=>(h.q i hi).aA ho (nI (h.q i hi)),h.g.aA ho (nI h.g),ho.aq h.of (h.of.off hb h3),ho.aq h.ex (h.ex.off hb h3),h.lt,h.ne,Nat.le_trans h.bs ho.size⟩;obtain⟨c2,h4⟩:=h.row.aq hk;exact(h4.off hb h2) e
def aaR (j:lr)(P:dN)(s':dB)(v:Int)(g was:Bool)(w:World)(e:Ending)(w':World):Prop:=
 e= .returned (.agg (cY v g was))∧mE j P s' w'∧ag (RF j) w w'
section
variable {c:aM}{hv lv dv:Value}{bc:Int}{w:World}{cb n:Nat}{j:lr}{P:dN}{s:dB}
theorem Li (hb:Box w cb 118 (mS c hv bc lv (aO j.mb) (.pointer none) dv))(fL:¬RF j cb)(h:mE j P s w)(cD:fi P s)(hP:P.Ok)(h1:s.now≤1000000000)(hn:(n:Int)∈aV P s):
 Calls Tryz.prog 82 #[aO cb,.agg #[ah 0,ah n]] w (aaR j P (ni P s n) 0 false true w):=by
 have HB:=ae hb;have HH:=ae h;have HK:=ae cD;have HP:=ae hP;have HD:=ae<|fun(W:World) (hr:mE j P s W)=>Ch (n:=n) hr cD hP h1 hn;have vF:=aB (decide ((n:Int)∈aV P s)=true) (decide_eq_true hn);have nG:=ae<|Box.fresh w 151 #[ah 0,ah n];have yq:=ae<|(ag.aj az w).alloc (.cells #[ah 0,ah n] 151);clear hb h cD hP hn
 go_enter Tryz.func82,Tryz.ntmps82
 go_upto_region 1 with fail;change Code.wp _ _ _ _ ((w.alloc (.cells #[ah 0,ah n] 151)).alloc (.cells (cY 0 false false) 148));have hsz:(w.alloc (.cells #[ah 0,ah n] 151)).heap.size=w.heap.size+1:=World.size_alloc ..;generalize w.alloc (.cells #[ah 0,ah n] 151)=W0 at *;obtain⟨ab,ic⟩:∃ab,ab=w.heap.size:=⟨_,rfl⟩;rw[←ic]at nG hsz ⊢;have oI:=aB (w.heap.size≤ab) (Nat.le_of_eq ic.symm);clear ic;have aR:ag az W0 (W0.alloc (.cells (cY 0 false false) 148)):=(ag.aj az W0).alloc _;have b5:=ae<|Box.fresh W0 148 (cY 0 false false);have eV:=ae<|aR.aq nG id;have aX:=ae<|yq.trans aR;clear aR nG yq;generalize W0.alloc (.cells (cY 0 false false) 148)=W1 at *;rw[hsz]at b5;clear hsz;have eQ:=ae (show w.heap.size≤ab+1 by have:=oI.out;omega);generalize ab+1=rb at *;have bU:=ae<|aX.aq HB id;have x2:=xh bU;have x3:=vj bU;have y1:aw W1 ab 1 n:=eV.af rfl;have gw:=ae<|Fg (b:=(n:Int)) (AJ bU (HH.keep aX) HK HP);rw[vF.out]at gw;go_upto_region 8 with(go_at_call 43;refine gw.mono ?_;rintro e Wm ⟨rfl,hm⟩;have sU:=ae hm;clear hm);change Code.wp _ _ _ _ (Wm.alloc (.cells (cY 0 false true) 148));have bp:ag az W1 (Wm.alloc (.cells (cY 0 false true) 148)):=sU.alloc _;have nF:=ae<|Box.fresh Wm 148 (cY 0 false true);have iR:=ae<|bp.aq b5 id;have ky:=ae<|bp.aq eV id;have dM:=ae<|bp.aq bU id;have bn:=ae<|aX.trans bp;have gz:=aB (w.heap.size≤Wm.heap.size) ((aX.trans sU).size);clear bp gw b5 eV bU aX sU x2 x3 y1;generalize Wm.alloc (.cells (cY 0 false true) 148)=W3 at *;generalize Wm.heap.size=eb at *;have zG:=aB (¬RF j cb∧¬RF j ab∧¬RF j rb∧¬RF j eb) (⟨fL,HH.p7 oI,HH.p7 eQ,HH.p7 gz⟩);have HD:=ae<|fun(W:World) (ho:ag az W3 W)=>HD W (HH.keep (bn.trans ho));have y0:aw W3 ab 0 0:=ky.af rfl;go_upto_region 9 with fail;have k1:aE W3.drew cb 19 (aO j.mb):=xh dM;have k2:aw W3.drew ab 1 n:=ky.af rfl;refine dU (fun w':World=>aE w' cb 19 (aO j.mb)∧aw w' ab 1 n) 6 fun aH=>?_
 refine bX [0,1,2,3,4,5] ?_;refine cG ?_;clear aH k1 k2 y0;have y0:aw W3.drew ab 0 0:=ky.af rfl;go_upto_region 17 with(go_at_call 113;refine(HD W3.drew ((ag.aj az W3).drew)).mono ?_;rintro e W4 ⟨rfl,h1,h2⟩;have jc:=ae h1;have bK:=ae<|(ag.aj (RF j) W3).drew.trans h2;have y9:=h2.cell y0 zG.2.1;clear h1 h2);have zK:=ae<|bK.aq nF zG.2.2.2;have KG:=ae<|bK.aq iR zG.2.2.1;have bM:=ae<|(bn.mono fun _ hb=>hb.elim).trans bK;go_wp2_with (first|(refine fH (cY 0 false true) zK Tryz.underlying148 ?_)|(refine fJ (cY 0 false true) KG (mO _ _ _) ?_))
 (try simp only[Exit.inBlock,Exit.then])
 refine bodyPost_ret (results_cell_row rfl _ _ rb _ (cY 0 false true) (0,0) _ rfl (KG.au _) Tryz.underlying148 rfl bZ) rfl ?_;have iK:ag (ar rb) W4 (W4.setRow rb (cY 0 false true)):=(ag.aj (ar rb) W4).au (.inl rfl) _;exact⟨rfl,jc.Kq KG aD aD aD iK,bM.au (.inr eQ) _⟩
theorem Lj (hb:Box w cb 118 (mS c hv bc lv (aO j.mb) (.pointer none) dv))(fL:¬RF j cb)(h:mE j P s w)(cD:fi P s)(hP:P.Ok)(hn:(n:Int)∈aV P s):
 Calls Tryz.prog 82 #[aO cb,.agg #[ah 2,ah n]] w (aaR j P (zO s n) 0 false true w):=by
 have HB:=ae hb;have HH:=ae h;have HK:=ae cD;have HP:=ae hP;have HD:=ae<|fun(W:World) (hr:mE j P s W)=>WG (n:=n) hr cD hP hn;have vF:=aB (decide ((n:Int)∈aV P s)=true) (decide_eq_true hn);have nG:=ae<|Box.fresh w 151 #[ah 2,ah n];have yq:=ae<|(ag.aj az w).alloc (.cells #[ah 2,ah n] 151);clear hb h cD hP hn
 go_enter Tryz.func82,Tryz.ntmps82
 go_upto_region 1 with fail;change Code.wp _ _ _ _ ((w.alloc (.cells #[ah 2,ah n] 151)).alloc (.cells (cY 0 false false) 148));have hsz:(w.alloc (.cells #[ah 2,ah n] 151)).heap.size=w.heap.size+1:=World.size_alloc ..;generalize w.alloc (.cells #[ah 2,ah n] 151)=W0 at *;obtain⟨ab,ic⟩:∃ab,ab=w.heap.size:=⟨_,rfl⟩;rw[←ic]at nG hsz ⊢;have oI:=aB (w.heap.size≤ab) (Nat.le_of_eq ic.symm);clear ic;have aR:ag az W0 (W0.alloc (.cells (cY 0 false false) 148)):=(ag.aj az W0).alloc _;have b5:=ae<|Box.fresh W0 148 (cY 0 false false);have eV:=ae<|aR.aq nG id;have aX:=ae<|yq.trans aR;clear aR nG yq;generalize W0.alloc (.cells (cY 0 false false) 148)=W1 at *;rw[hsz]at b5;clear hsz;have eQ:=ae (show w.heap.size≤ab+1 by have:=oI.out;omega);generalize ab+1=rb at *;have bU:=ae<|aX.aq HB id;have x2:=xh bU;have x3:=vj bU;have y1:aw W1 ab 1 n:=eV.af rfl;have gw:=ae<|Fg (b:=(n:Int)) (AJ bU (HH.keep aX) HK HP);rw[vF.out]at gw;go_upto_region 8 with(go_at_call 43;refine gw.mono ?_;rintro e Wm ⟨rfl,hm⟩;have sU:=ae hm;clear hm);change Code.wp _ _ _ _ (Wm.alloc (.cells (cY 0 false true) 148));have bp:ag az W1 (Wm.alloc (.cells (cY 0 false true) 148)):=sU.alloc _;have nF:=ae<|Box.fresh Wm 148 (cY 0 false true);have iR:=ae<|bp.aq b5 id;have ky:=ae<|bp.aq eV id;have dM:=ae<|bp.aq bU id;have bn:=ae<|aX.trans bp;have gz:=aB (w.heap.size≤Wm.heap.size) ((aX.trans sU).size);clear bp gw b5 eV bU aX sU x2 x3 y1;generalize Wm.alloc (.cells (cY 0 false true) 148)=W3 at *;generalize Wm.heap.size=eb at *;have zG:=aB (¬RF j cb∧¬RF j ab∧¬RF j rb∧¬RF j eb) (⟨fL,HH.p7 oI,HH.p7 eQ,HH.p7 gz⟩);have HD:=ae<|fun(W:World) (ho:ag az W3 W)=>HD W (HH.keep (bn.trans ho));have y0:aw W3 ab 0 2:=ky.af rfl;go_upto_region 16 with fail;have k1:aE W3.drew cb 19 (aO j.mb):=xh dM;have k2:aw W3.drew ab 1 n:=ky.af rfl;refine dU (fun w':World=>aE w' cb 19 (aO j.mb)∧aw w' ab 1 n) 6 fun aH=>?_
 refine bX [0,1,2,3,4,5] ?_;refine cG ?_;clear aH k1 k2 y0;have y0:aw W3.drew ab 0 2:=ky.af rfl;go_upto_region 17 with(go_at_call 115;refine(HD W3.drew ((ag.aj az W3).drew)).mono ?_;rintro e W4 ⟨rfl,h1,h2⟩;have jc:=ae h1;have bK:=ae<|(ag.aj (RF j) W3).drew.trans h2;have y9:=h2.cell y0 zG.2.1;clear h1 h2);have zK:=ae<|bK.aq nF zG.2.2.2;have KG:=ae<|bK.aq iR zG.2.2.1;have bM:=ae<|(bn.mono fun _ hb=>hb.elim).trans bK;go_wp2_with (first|(refine fH (cY 0 false true) zK Tryz.underlying148 ?_)|(refine fJ (cY 0 false true) KG (mO _ _ _) ?_))
 (try simp only[Exit.inBlock,Exit.then])
 refine bodyPost_ret (results_cell_row rfl _ _ rb _ (cY 0 false true) (0,0) _ rfl (KG.au _) Tryz.underlying148 rfl bZ) rfl ?_;have iK:ag (ar rb) W4 (W4.setRow rb (cY 0 false true)):=(ag.aj (ar rb) W4).au (.inl rfl) _;exact⟨rfl,jc.Kq KG aD aD aD iK,bM.au (.inr eQ) _⟩
end
section
variable {j:lr}{P:dN}{s:dB}{w:World}
theorem WK {n:Nat}(h:mE j P s w)(hI:AE P s)(hP:P.Ok)(h1:s.now≤1000000000)(hn:n<64):
 Calls Tryz.prog 114 #[aO j.mb,ah n] w (B9 j P s n w):=by
 by_cases hb:(n:Int)∈aV P s
 ·exact Lc h hI.ok hP h1 hn hb
 ·exact I8 h hI hP h1 hn hb
end
section
variable {c:aM}{hv lv dv:Value}{bc:Int}{w:World}{cb n:Nat}{j:lr}{P:dN}{s:dB}
theorem ry{P:Prop}(h:P:=by
 have vI:=ae<|Mw.aq nF zG.2.2.2;have iG:=ae<|Mw.aq iR zG.2.2.1;have yB:=ae<|Mw.aq ky zG.2.1;have bM:=ae<|(bn.mono fun _ hb=>hb.elim).trans Mw;generalize Qe:(ey P s n).2.1=v at *;generalize hgg:(ey P s n).2.2=g at *;generalize ZB:(ey P s n).1=s2 at *;refine fJ (kV v g 0) UK (uj _ _ _) ?_;go_upto_region 12 with fail;have kG:ag (ar tb) W5 (W5.setRow tb (kV v g 0)):=(ag.aj (ar tb) W5).au (.inl rfl) _;have tq:=ae<|UK.au (kV v g 0);have Ai:=ae<|kG.aq vI (vI.off UK aD);have kI:=ae<|kG.aq iG (iG.off UK aD);have gY:=ae<|kG.aq yB (yB.off UK aD);have tz:=ae<|iz.Kq UK aD aD aD kG;have cZ:=ae<|bM.au (.inr jX) (kV v g 0);have HRE:=aB (rb≠eb) (HBE);change Code.wp _ _ _ _ (W5.setRow tb (kV v g 0));clear kG UK vI iG yB iz bM Mw;generalize W5.setRow tb (kV v g 0)=W6 at *;have z7:aw W6 tb 0 v:=tq.af rfl;have e7:aw W6 eb 1 0:=Ai.af rfl;have f7:W6.frozen? ⟨eb,1,none⟩=false:=Ai.free 1;go_upto_region 13 with fail;have kG:ag (ar eb) W6 (W6.setCell ⟨eb,1,none⟩ (ah v)):=(ag.aj (ar eb) W6).setCell (p:=⟨eb,1,none⟩) (.inl (show ar eb eb from rfl)) _;have oD:=ae<|kG.aq tq (tq.off Ai aD);have Bk:=aB (Box _ eb 148 (cY v false was)) (Ai.store 1 (ah v));have sV:=ae<|kG.aq kI HRE;have HA7:=ae<|kG.aq gY (gY.off Ai aD);have zE:=ae<|tz.Kq Ai aD aD aD kG;have fC:=ae<|cZ.setCell (p:=⟨eb,1,none⟩) (.inr gz) (ah v);change Code.wp _ _ _ _ (W6.setCell ⟨eb,1,none⟩ (ah v));clear kG tq Ai kI gY tz cZ z7 e7 f7;generalize W6.setCell ⟨eb,1,none⟩ (ah v)=W7 at *;have z8:aE W7 tb 1 (.bool g):=oD.af rfl;have e8:aE W7 eb 2 (.bool false):=Bk.af rfl;have f8:W7.frozen? ⟨eb,2,none⟩=false:=Bk.free 2;go_upto_region 14 with fail;have kG:ag (ar eb) W7 (W7.setCell ⟨eb,2,none⟩ (.bool g)):=(ag.aj (ar eb) W7).setCell (p:=⟨eb,2,none⟩) (.inl (show ar eb eb from rfl)) _;have DJ:=ae<|kG.aq oD (oD.off Bk aD);have E0:=aB (Box _ eb 148 (cY v g was)) (Bk.store 2 (.bool g));have Bm:=ae<|kG.aq sV HRE;have VC:=ae<|kG.aq HA7 (HA7.off Bk aD);have Bf:=ae<|zE.Kq Bk aD aD aD kG;have ix:=ae<|fC.setCell (p:=⟨eb,2,none⟩) (.inr gz) (.bool g);change Code.wp _ _ _ _ (W7.setCell ⟨eb,2,none⟩ (.bool g));clear kG oD Bk sV HA7 zE fC z8 e8 f8;generalize W7.setCell ⟨eb,2,none⟩ (.bool g)=W8 at *;have z9:aw W8 tb 2 0:=DJ.af rfl;have e9:aw W8 eb 4 0:=E0.af rfl;have f9:W8.frozen? ⟨eb,4,none⟩=false:=E0.free 4;go_upto_region 15 with fail;have kG:ag (ar eb) W8 (W8.setCell ⟨eb,4,none⟩ (ah 0)):=(ag.aj (ar eb) W8).setCell (p:=⟨eb,4,none⟩) (.inl (show ar eb eb from rfl)) _;have Qs:=ae<|kG.aq DJ (DJ.off E0 aD);have GH:=aB (Box _ eb 148 (cY v g was)) (E0.store 4 (ah 0));have zL:=ae<|kG.aq Bm HRE;have Gf:=ae<|kG.aq VC (VC.off E0 aD);have yp:=ae<|Bf.Kq E0 aD aD aD kG;have kf:=ae<|ix.setCell (p:=⟨eb,4,none⟩) (.inr gz) (ah 0)
 change Code.wp _ _ _ _ (W8.setCell ⟨eb,4,none⟩ (ah 0));clear kG DJ E0 Bm VC Bf ix z9 e9 f9;generalize W8.setCell ⟨eb,4,none⟩ (ah 0)=W9 at *;have y0:aw W9 ab 0 1:=Gf.af rfl;go_upto_region 17 with fail;go_wp2_with (first|(refine fH (cY v g was) GH Tryz.underlying148 ?_)|(refine fJ (cY v g was) zL (mO _ _ _) ?_))
 (try simp only[Exit.inBlock,Exit.then])
 refine bodyPost_ret (results_cell_row rfl _ _ rb _ (cY v g was) (0,0) _ rfl (zL.au _) Tryz.underlying148 rfl bZ) rfl ?_;have iK:ag (ar rb) W9 (W9.setRow rb (cY v g was)):=(ag.aj (ar rb) W9).au (.inl rfl) _;exact⟨rfl,yp.Kq zL aD aD aD iK,kf.au (.inr eQ) _⟩):P:=h
theorem gF{P:Prop}(h:P:=by
 exact⟨by first|exact aH.1|exact k1|exact((ag.aj az _).alloc _).cell k1 id|exact((ag.aj az _).alloc _).cell aH.1 id|assumption,by first|exact aH.2|exact k2|exact((ag.aj az _).alloc _).cell k2 id|exact((ag.aj az _).alloc _).cell aH.2 id|assumption⟩):P:=h
theorem Ll (hb:Box w cb 118 (mS c hv bc lv (aO j.mb) (.pointer none) dv))(fL:¬RF j cb)(h:mE j P s w)(cD:fi P s)(hP:P.Ok)(hI:AE P s)(h1:s.now≤1000000000)(yH:n<64):
 Calls Tryz.prog 82 #[aO cb,.agg #[ah 1,ah n]] w (aaR j P (ey P s n).1 (ey P s n).2.1 (ey P s n).2.2 (decide ((n:Int)∈aV P s)) w):=by
 have HB:=ae hb;have HH:=ae h;have HK:=ae cD;have HP:=ae hP;have HD:=ae<|fun(W:World) (hr:mE j P s W)=>WK hr hI hP h1 yH;obtain⟨was,ou⟩:∃was,was=decide ((n:Int)∈aV P s):=⟨_,rfl⟩;rw[←ou];have vF:=ae ou.symm;clear ou;have nG:=ae<|Box.fresh w 151 #[ah 1,ah n];have yq:=ae<|(ag.aj az w).alloc (.cells #[ah 1,ah n] 151);clear hb h cD hP hI h1 yH
 go_enter Tryz.func82,Tryz.ntmps82
 go_upto_region 1 with fail;change Code.wp _ _ _ _ ((w.alloc (.cells #[ah 1,ah n] 151)).alloc (.cells (cY 0 false false) 148));have hsz:(w.alloc (.cells #[ah 1,ah n] 151)).heap.size=w.heap.size+1:=World.size_alloc ..;generalize w.alloc (.cells #[ah 1,ah n] 151)=W0 at *;obtain⟨ab,ic⟩:∃ab,ab=w.heap.size:=⟨_,rfl⟩;rw[←ic]at nG hsz ⊢;have oI:=aB (w.heap.size≤ab) (Nat.le_of_eq ic.symm);clear ic;have aR:ag az W0 (W0.alloc (.cells (cY 0 false false) 148)):=(ag.aj az W0).alloc _;have b5:=ae<|Box.fresh W0 148 (cY 0 false false);have eV:=ae<|aR.aq nG id;have aX:=ae<|yq.trans aR;clear aR nG yq;generalize W0.alloc (.cells (cY 0 false false) 148)=W1 at *;rw[hsz]at b5;clear hsz;have eQ:=ae (show w.heap.size≤ab+1 by have:=oI.out;omega);generalize ab+1=rb at *;have bU:=ae<|aX.aq HB id;have x2:=xh bU;have x3:=vj bU;have y1:aw W1 ab 1 n:=eV.af rfl;have gw:=ae<|Fg (b:=(n:Int)) (AJ bU (HH.keep aX) HK HP);rw[vF.out]at gw;go_upto_region 8 with(go_at_call 43;refine gw.mono ?_;rintro e Wm ⟨rfl,hm⟩;have sU:=ae hm;clear hm);change Code.wp _ _ _ _ (Wm.alloc (.cells (cY 0 false was) 148));have bp:ag az W1 (Wm.alloc (.cells (cY 0 false was) 148)):=sU.alloc _;have nF:=ae<|Box.fresh Wm 148 (cY 0 false was);have iR:=ae<|bp.aq b5 id;have ky:=ae<|bp.aq eV id;have dM:=ae<|bp.aq bU id;have bn:=ae<|aX.trans bp;have HBE:=aB (rb≠Wm.heap.size) (Nat.ne_of_lt (sU.aq b5 id).lt);have gz:=aB (w.heap.size≤Wm.heap.size) ((aX.trans sU).size);clear bp gw b5 eV bU aX sU x2 x3 y1;generalize Wm.alloc (.cells (cY 0 false was) 148)=W3 at *;generalize Wm.heap.size=eb at *;have zG:=aB (¬RF j cb∧¬RF j ab∧¬RF j rb∧¬RF j eb) (⟨fL,HH.p7 oI,HH.p7 eQ,HH.p7 gz⟩);have HD:=ae<|fun(W:World) (ho:ag az W3 W)=>HD W (HH.keep (bn.trans ho));have y0:aw W3 ab 0 1:=ky.af rfl;go_upto_region 11 with fail;have k1:aE W3.drew cb 19 (aO j.mb):=xh dM;have k2:aw W3.drew ab 1 n:=ky.af rfl;refine oa (fun w':World=>aE w' cb 19 (aO j.mb)∧aw w' ab 1 n) 8 ?_ ?_
 ·exact gF
 intro aH;refine bX [0,1,2,3,4,5] ?_;refine il (i:=6) (j:=7) rfl rfl bZ (fun Kc hK=>?_) (fun Kc hK=>?_)
 ·go_simp;refine(HD W3.drew ((ag.aj az W3).drew)).mono ?_;rintro e W4 ⟨rfl,h1,h2⟩;have jc:=ae h1;have bK:=ae h2;have k1:=h2.cell aH.1 zG.1;have k2:=h2.cell aH.2 zG.2.1;clear h1 h2;refine jS hK ?_ fun aH=>?_
  ·exact gF
  clear hK;refine cM 7 fun Kc hK=>?_
  go_simp;refine jS hK ?_ fun aH=>?_
  ·exact gF
  clear hK;refine cG ?_;have bu:ag az W4 (W4.alloc (.cells (kV 0 false 0) 202)):=(ag.aj az W4).alloc _;have Mw:=aB (ag (RF j) W3 (W4.alloc (.cells (kV 0 false 0) 202))) (((ag.aj (RF j) W3).drew.trans bK).da bu);have UK:=ae<|Box.fresh W4 202 (kV 0 false 0);have iz:=ae<|jc.keep bu;have jX:=aB (w.heap.size≤W4.heap.size) (Nat.le_trans bn.size ((ag.aj (RF j) W3).drew.trans bK).size);clear aH k1 k2 bu jc bK;change wpList _ _ _ _ _ (W4.alloc (.cells (kV 0 false 0) 202));generalize W4.alloc (.cells (kV 0 false 0) 202)=W5 at *;generalize W4.heap.size=tb at *;exact ry
 ·go_simp;refine jS hK ?_ fun aH=>?_
  ·exact gF
  clear hK;refine cM 6 fun Kc hK=>?_
  go_simp;refine(HD (W3.drew.alloc (.cells (kV 0 false 0) 202)) (((ag.aj az W3).drew).alloc _)).mono ?_;rintro e W4 ⟨rfl,h1,h2⟩;have jc:=ae h1;have bK:=ae h2;have k1:=h2.cell aH.1 zG.1;have k2:=h2.cell aH.2 zG.2.1;clear h1 h2;refine jS hK ?_ fun aH=>?_
  ·exact gF
  clear hK;refine cG ?_;have bu:ag az W3 (W3.drew.alloc (.cells (kV 0 false 0) 202)):=((ag.aj az W3).drew).alloc _;have Mw:=aB (ag (RF j) W3 W4) ((((ag.aj (RF j) W3).drew).alloc _).trans bK);have jX:=aB (w.heap.size≤W3.heap.size) (bn.size);have UK:=aB (Box W4 W3.heap.size 202 (kV 0 false 0)) (bK.aq (Box.fresh W3.drew 202 (kV 0 false 0)) (HH.p7 jX));have iz:=ae jc;clear aH k1 k2 bu jc bK;generalize W4=W5 at *;generalize W3.heap.size=tb at *;exact ry
end
def NP (F:Nat→Prop)(cb:Nat):Nat→Prop:=fun k=>F k∨k=cb
def GP {σ:Type}(R:σ→Value→World→Prop)(F:Nat→Prop)(c:aM)(hv:Value)(bc:Int)(mp pp dv:Value)(cb:Nat)(s':σ)(v:Int)(g was:Bool)(w:World)(e:Ending)(w':World):Prop:=
 ∃A n m lv',e= .returned (.agg (eU (.slice A n m) v g was 0))∧R s' lv' w'∧Box w' cb 118 (mS c hv bc lv' mp pp dv)∧ag (NP F cb) w w'
structure cJ (K:aZ)(c:aM)(k:Nat) where
 mp:Value
 pp:Value
 F:Nat→Prop
 B:Nat
 R:K.σ→Value→World→Prop
 Inv:K.σ→Prop
 inv:∀{i s w},K.R i s w→Inv s
 lt:∀{s lv w},R s lv w→B≤w.heap.size∧∀k,F k→k<B
 slc:∀{s lv w},R s lv w→∃A n m,lv= .slice A n m
 dC:∀{s lv w w'} {S:Nat→Prop},R s lv w→ag S w w'→(∀k,F k→¬S k)→(∀k cs,S k→B≤k→¬Box w k 3 cs)→R s lv w'
 all:∀{s lv w cb hv dv},R s lv w→Inv s→Box w cb 118 (mS c hv ((k+1:Nat):Int) lv mp pp dv)→Calls Tryz.prog 28 #[aO cb] w (DT B (K.sp.all s) w)
 use:∀{s lv w cb hv dv b},R s lv w→Inv s→Box w cb 118 (mS c hv ((k+1:Nat):Int) lv mp pp dv)→¬F cb→b∈K.sp.all s→K.sp.eE s<bN→
  Calls Tryz.prog 82 #[aO cb,.agg #[ah 0,ah b]] w (GP R F c hv ((k+1:Nat):Int) mp pp dv cb (K.sp.use s b) 0 false true w)
 add:∀{s lv w cb hv dv b},R s lv w→Inv s→Box w cb 118 (mS c hv ((k+1:Nat):Int) lv mp pp dv)→¬F cb→0≤b→b<64→K.sp.takes b→K.sp.eE s<bN→
  Calls Tryz.prog 82 #[aO cb,.agg #[ah 1,ah b]] w (GP R F c hv ((k+1:Nat):Int) mp pp dv cb (K.sp.add s b).1 (K.sp.add s b).2.1 (K.sp.add s b).2.2 (decide (b∈K.sp.all s)) w)
 rem:∀{s lv w cb hv dv b},R s lv w→Inv s→Box w cb 118 (mS c hv ((k+1:Nat):Int) lv mp pp dv)→¬F cb→b∈K.sp.all s→
  Calls Tryz.prog 82 #[aO cb,.agg #[ah 2,ah b]] w (GP R F c hv ((k+1:Nat):Int) mp pp dv cb (K.sp.rem s b) 0 false true w)
 takes:∀{s lv w cb hv dv} (b level:Int),R s lv w→Inv s→Box w cb 118 (mS c hv ((k+1:Nat):Int) lv mp pp dv)→
  Calls Tryz.prog 121 #[aO cb,ah b,ah level] w fun e w'=>e= .returned (.bool (fj c k b level))∧ag az w w'
section
variable {c:aM}{hv lv mp dv:Value}{w:World}{cb k:Nat}
theorem jh{P:Prop}(h:P:=by
 go_enter Tryz.func121,Tryz.ntmps121
 go_wp2;go_ret;exact⟨rfl,ag.aj _ _⟩):P:=h
theorem ya (b level:Int)(hb:Box w cb 118 (mS c hv ((k+1:Nat):Int) lv mp (.pointer none) dv))(hp:c.f 5≠2):
 Calls Tryz.prog 121 #[aO cb,ah b,ah level] w fun e w'=>e= .returned (.bool (fj c k b level))∧ag az w w':=by
 have x2:aw w cb 2 (c.f 2):=ng hb aD;have x5:aw w cb 5 (c.f 5):=ng hb aD;have Us:=YP hb;have FY:=vj hb;unfold fj;rw[if_neg hp];clear hb hp;generalize c.f 2=n at *;generalize c.f 5=pl at *;generalize((k+1:Nat):Int)=tr at *
 by_cases h1:0≤b
 ·have fB:decide (0≤b)=true:=by simp[h1]
  by_cases h2:b<n
  ·have dX:decide (b<n)=true:=by simp[h2]
   rw[fB,dX];clear fB dX
   by_cases h3:pl=1
   ·by_cases h4:level=tr
    ·rw[show(true&&true&&(decide (pl≠1)||decide (level=tr)))=true by simp[h4]]
     go_enter Tryz.func121,Tryz.ntmps121
     go_wp2;go_ret;exact⟨by simp,ag.aj _ _⟩
    ·rw[show(true&&true&&(decide (pl≠1)||decide (level=tr)))=false by simp[h3,h4]];have h4':(level==tr)=false:=by simpa using h4
     go_enter Tryz.func121,Tryz.ntmps121
     go_wp2;go_ret;exact⟨by simp[h4],ag.aj _ _⟩
   ·rw[show(true&&true&&(decide (pl≠1)||decide (level=tr)))=true by simp[h3]];exact jh
  ·have dX:decide (b<n)=false:=by simp[h2]
   rw[fB,dX];clear fB dX;exact jh
 ·have fB:decide (0≤b)=false:=by simp[h1]
  rw[fB];clear fB;exact jh
theorem qf{P:Prop}(h:P:=by
 generalize c.f 2=n at *;exact jh):P:=h
theorem La {j:Ga}{S:Nat→List Int}(b level:Int)(hb:Box w cb 118 (mS c hv ((k+1:Nat):Int) lv mp (aO j.pb) dv))(h:JN j c.h (eW c.h (dV c)) S w)(hP:cK c)(hp:c.f 5=2)(hj:j.t=k):
 Calls Tryz.prog 121 #[aO cb,ah b,ah level] w fun e w'=>e= .returned (.bool (fj c k b level))∧ag az w w':=by
 have x2:aw w cb 2 (c.f 2):=ng hb aD;have x5:aw w cb 5 (c.f 5):=ng hb aD;have FY:=vj hb;have hle:=hP.p2;unfold fj;rw[if_pos hp];rw[hp]at x5;clear hb hp
 by_cases h1:0≤b
 ·have fB:decide (0≤b)=true:=by simp[h1]
  by_cases h2:b<c.f 2
  ·have dX:decide (b<c.f 2)=true:=by simp[h2]
   have HP:=ae<|oX (b:=b) h hP.hs ⟨h1,ao⟩;rw[fB,dX,←hj];clear fB dX hj h hP hle;generalize bO c.h (eW c.h (dV c)) b j.t=pv at *;generalize c.f 2=n at *
   go_enter Tryz.func121,Tryz.ntmps121
   go_wp2_with (go_at_call 133;refine HP.mono ?_;rintro e W1 ⟨rfl,m,rfl⟩);go_ret;exact⟨rfl,(ag.aj _ _).drewN _⟩
  ·have dX:decide (b<c.f 2)=false:=by simp[h2]
   rw[fB,dX];clear fB dX hj h hP hle;exact qf
 ·have fB:decide (0≤b)=false:=by simp[h1]
  rw[fB];clear fB hj h hP hle;exact qf
end
theorem aF.dC {w w':World}{base:Nat}{v:Value}{l:List Int}{S:Nat→Prop}(h:aF 3 w base v l)(ho:ag S w w')(hS:∀k cs,S k→base≤k→¬Box w k 3 cs):aF 3 w' base v l:=
 h.aA ho fun k hk e=>by
  obtain⟨c2,h2⟩:=h.fQ hk;exact hS k c2 e (h.lt k hk).1 h2
theorem cJ.off {K:aZ}{c:aM}{k:Nat}(o:cJ K c k){s:K.σ}{lv:Value}{w w':World}{S:Nat→Prop}(h:o.R s lv w)(ho:ag S w w')(hF:∀k,o.F k→¬S k)(hB:∀k,o.B≤k→k<w.heap.size→¬S k):o.R s lv w':=
 o.dC h ho hF fun k cs hk hB' hb=>hB k hB' hb.lt hk
theorem cJ.mK {K:aZ}{c:aM}{k:Nat}(o:cJ K c k){s:K.σ}{lv:Value}{w w':World}{g:Nat}{t:TypeId}{cs:Array Value}(h:o.R s lv w)(hb:Box w g t cs)(ht:3≠t)(hF:¬o.F g)(ho:ag (ar g) w w'):o.R s lv w':=
 o.dC h ho (fun k hk e=>hF (show o.F g from(show k=g from e)▸hk)) fun k cs2 hk _ dX=>by
  obtain rfl:k=g:=hk;exact ht (dX.same hb).1
theorem cJ.keep {K:aZ}{c:aM}{k:Nat}(o:cJ K c k){s:K.σ}{lv:Value}{w w':World}(h:o.R s lv w)(ho:ag az w w'):o.R s lv w':=o.off h ho (fun _ _=>id) fun _ _ _=>id
section
variable {c:aM}{k B cb:Nat}{L:List Int}{hv lv dv:Value}{w:World}{b:Int}
def KB (B:Nat)(L:List Int)(lv:Value)(w:World):Prop:=aF 3 w B lv L∧B≤w.heap.size
theorem yZ {L':List Int}{v:Int}{g was:Bool}{kd:Int}(hk:k<3)(hb:Box w cb 118 (mS c hv ((k+1:Nat):Int) lv (.pointer none) (.pointer none) dv))(h:KB B L lv w)
 (hD:∀w',ag az w w'→Calls Tryz.prog 112 #[lv,ah (c.f (9+k)),.agg #[ah kd,ah b]] w' (yT B L' v g was w')):
 Calls Tryz.prog 82 #[aO cb,.agg #[ah kd,ah b]] w (GP (KB B) (fun _=>False) c hv ((k+1:Nat):Int) (.pointer none) (.pointer none) dv cb L' v g was w):=
 (WM hk hb h.1 hD).mono fun e w' ⟨A,n,m,h1,h2,h3,h4⟩=>⟨A,n,m,_,h1,⟨h2,Nat.le_trans h.2 h4.size⟩,h3,h4.mono fun k hk=>.inl (.inr hk)⟩
variable (hP:cK c)(hk:k<3)(hb:Box w cb 118 (mS c hv ((k+1:Nat):Int) lv (.pointer none) (.pointer none) dv))(h:KB B L lv w)(hI:L.Nodup∧L.length≤(c.f (9+k)).toNat)
include hP hk hb h hI
theorem TT (hm:b∈L):
 Calls Tryz.prog 82 #[aO cb,.agg #[ah 0,ah b]] w (GP (KB B) (fun _=>False) c hv ((k+1:Nat):Int) (.pointer none) (.pointer none) dv cb (b :: L.erase b) 0 false true w):=by
 have ZW:=hP.pc k hk;refine yZ hk hb h fun w' ho=>?_
 have h5:=Tq (cap:=(c.f (9+k)).toNat) (h.1.aA ho fun _ _=>id) (Nat.le_trans h.2 ho.size) (show L.length≤64 by have:=hI.2;omega) hm;rw[show(((c.f (9+k)).toNat:Nat):Int)=c.f (9+k) by omega,erase_filter hI.1]at h5;exact h5
theorem TU (hm:b∈L):
 Calls Tryz.prog 82 #[aO cb,.agg #[ah 2,ah b]] w (GP (KB B) (fun _=>False) c hv ((k+1:Nat):Int) (.pointer none) (.pointer none) dv cb (L.erase b) 0 false true w):=by
 have ZW:=hP.pc k hk;refine yZ hk hb h fun w' ho=>?_
 have h5:=Tn (b:=b) (cap:=(c.f (9+k)).toNat) (h.1.aA ho fun _ _=>id) (Nat.le_trans h.2 ho.size) (show L.length≤64 by have:=hI.2;omega);rw[show(((c.f (9+k)).toNat:Nat):Int)=c.f (9+k) by omega,erase_filter hI.1,decide_eq_true hm]at h5;exact h5
theorem TV (h0:0≤b)(h1:b<64):
 Calls Tryz.prog 82 #[aO cb,.agg #[ah 1,ah b]] w (GP (KB B) (fun _=>False) c hv ((k+1:Nat):Int) (.pointer none) (.pointer none) dv cb (dw (c.f (9+k)).toNat L b).1 (dw (c.f (9+k)).toNat L b).2.1 (dw (c.f (9+k)).toNat L b).2.2 (decide (b∈L)) w):=by
 have ZW:=hP.pc k hk;refine yZ hk hb h fun w' ho=>?_
 obtain⟨n,rfl⟩:=Int.eq_ofNat_of_zero_le h0
 by_cases hm:(n:Int)∈L
 ·have h5:=Tp (cap:=(c.f (9+k)).toNat) (h.1.aA ho fun _ _=>id) (Nat.le_trans h.2 ho.size) (show L.length≤64 by have:=hI.2;omega) hm;rw[show(((c.f (9+k)).toNat:Nat):Int)=c.f (9+k) by omega,erase_filter hI.1]at h5;rw[show dw (c.f (9+k)).toNat L n=((n:Int) :: L.erase n,0,false) by unfold dw;rw[if_pos hm],decide_eq_true hm];exact h5
 ·have h5:=Tr (cap:=(c.f (9+k)).toNat) (n:=n) (h.1.aA ho fun _ _=>id) (Nat.le_trans h.2 ho.size) (by have:=hI.2;omega) hI.2 ao ao hI.1 ao hm;rw[show(((c.f (9+k)).toNat:Nat):Int)=c.f (9+k) by omega]at h5;rw[decide_eq_false hm];exact h5
end
noncomputable def adQ {c:aM}{k:Nat}(hk:k<3)(hP:cK c)(hp:c.f 5≠2)(B:Nat):cJ (Rj (c.f (9+k)).toNat) c k where
 mp:=.pointer none
 pp:=.pointer none
 F:=fun _=>False
 B:=B
 R:=KB B
 Inv:=fun(L:List Int)=>L.Nodup∧L.length≤(c.f (9+k)).toNat
 inv:=fun h=>⟨h.1.sp.nodup 0,h.2⟩
 lt:=fun h=>⟨h.2,fun _ h=>h.elim⟩
 slc:=fun h=>by obtain⟨A,m,e,_⟩:=h.1.shape;exact⟨A,_,m,e⟩
 dC:=fun h ho _ hB=>⟨h.1.dC ho hB,Nat.le_trans h.2 ho.size⟩
 all:=fun h _ hb=>Tz hb h.1
 use:=fun h hI hb _ hm _=>TT hP hk hb h hI hm
 add:=fun h hI hb _ h0 h1 _ _=>TV hP hk hb h hI h0 h1
 rem:=fun h hI hb _ hm=>TU hP hk hb h hI hm
 takes:=fun b level _ _ hb=>ya b level hb hp
theorem ei.dC {j:lr}{P:dN}{gv:Value}{qv:Nat→Value}{s:dB}{w w':World}{S:Nat→Prop}(h:ei j P gv qv s w)(ho:ag S w w')(n1:∀k,RF j k→¬S k)(hS:∀k cs,S k→j.B≤k→¬Box w k 3 cs):ei j P gv qv s w':=
 ⟨ho.aq h.aq (n1 _ (.inl rfl)),h.row.aA ho fun k hk=>by
  have e:j.qb=k:=by injection hk
  exact n1 _ (.inr (.inl e.symm)),fun i hi=>(h.q i hi).dC ho hS,h.g.dC ho hS,ho.aq h.of (n1 _ (.inr (.inr (.inl rfl)))),ho.aq h.ex (n1 _ (.inr (.inr (.inr rfl)))),h.lt,h.ne,Nat.le_trans h.bs ho.size⟩
theorem ei.ltB {j:lr}{P:dN}{gv:Value}{qv:Nat→Value}{s:dB}{w:World}(h:ei j P gv qv s w):∀k,RF j k→k<j.B:=fun k hk=>by
 have:=h.lt;rcases hk with rfl|rfl|rfl|rfl<;>omega
noncomputable def acn {c:aM}{k:Nat}(hk:k<3)(hP:cK c)(hp:c.f 5≠2)(j:lr):cJ (mqK (fE c k) (kj hP hk)) c k where
 mp:=aO j.mb
 pp:=.pointer none
 F:=RF j
 B:=j.B
 R:=fun s lv w=>lv=aJ∧mE j (fE c k) s w
 Inv:=AE (fE c k)
 inv:=fun h=>h.2
 lt:=fun h=>by
  obtain⟨_,gv,qv,h⟩:=h;exact⟨h.bs,h.ltB⟩
 slc:=fun h=>⟨none,0,0,h.1⟩
 dC:=fun h ho hF hB=>by
  obtain⟨h0,gv,qv,h⟩:=h;exact⟨h0,gv,qv,h.dC ho hF hB⟩
 all:=fun {s lv w cb hv dv} h hI hb=>by
  have hle:j.B≤w.heap.size:=by obtain⟨_,gv,qv,h⟩:=h;exact h.bs
  exact(AJ hb h.2 hI.ok (kj hP hk)).mono fun e w' ⟨v,h1,h2,h3⟩=>⟨v,h1,h2.low hle,h3⟩
 use:=fun {s lv w cb hv dv b} h hI hb fL hm cw=>by
  have hm:b∈aV (fE c k) s:=hm;have cw:s.now.toNat<bN:=cw;unfold bN at cw;obtain⟨n,rfl⟩:=Int.eq_ofNat_of_zero_le (lh hI.ok hm).1;obtain⟨rfl,h⟩:=h;exact(Li hb fL h hI.ok (kj hP hk) ao hm).mono fun e w' ⟨h1,h2,h3⟩=>⟨none,0,0,_,h1,⟨rfl,h2⟩,h3.aq hb fL,h3.mono fun k hk=>.inl (.inl hk)⟩
 add:=fun {s lv w cb hv dv b} h hI hb fL h0 h1 _ cw=>by
  have cw:s.now.toNat<bN:=cw;unfold bN at cw;obtain⟨n,rfl⟩:=Int.eq_ofNat_of_zero_le h0;obtain⟨rfl,h⟩:=h;exact(Ll hb fL h hI.ok (kj hP hk) hI ao ao).mono fun e w' ⟨h1,h2,h3⟩=>⟨none,0,0,_,h1,⟨rfl,h2⟩,h3.aq hb fL,h3.mono fun k hk=>.inl (.inl hk)⟩
 rem:=fun {s lv w cb hv dv b} h hI hb fL hm=>by
  have hm:b∈aV (fE c k) s:=hm;obtain⟨n,rfl⟩:=Int.eq_ofNat_of_zero_le (lh hI.ok hm).1;obtain⟨rfl,h⟩:=h;exact(Lj hb fL h hI.ok (kj hP hk) hm).mono fun e w' ⟨h1,h2,h3⟩=>⟨none,0,0,_,h1,⟨rfl,h2⟩,h3.aq hb fL,h3.mono fun k hk=>.inl (.inl hk)⟩
 takes:=fun b level _ _ hb=>ya b level hb hp
theorem jF.dC {j:Ga}{l:List aS}{O:Nat→Nat→Int}{qv:Nat→Value}{S:Nat→List Int}{w w':World}{F:Nat→Prop}(h:jF j l O qv S w)(ho:ag F w w')(n1:∀k,Z4 j l.length k→¬F k)(hS:∀k cs,F k→j.B≤k→¬Box w k 3 cs):jF j l O qv S w':=
 ⟨ho.aq h.aq (n1 _ (.inl rfl)),h.row.aA ho fun k hk=>n1 k (.inr (.inl hk)),fun i hi=>(h.q i hi).dC ho hS,
  h.bw.off ho fun h0 k o e=>n1 k (.inr (.inr (.inr ⟨h0,o,e⟩))),ho.aq h.prt (n1 _ (.inr (.inr (.inl rfl)))),h.t3,h.X9,h.wz,h.Zq,h.UY,Nat.le_trans h.bs ho.size⟩
theorem dr.Rk {l:List aS}{O:Nat→Nat→Int}{t:Nat}{S:Nat→List Int}(h:dr l O t S)(r:Nat):(S r).length≤64:=by
 have h1:=pN (L':=(List.range 64).map Int.ofNat) (h.nodup r) fun x hx=>by
  have:=h.at_ hx;exact sr
 simpa using h1
theorem yY {c:aM}{bc:Nat}{j:Ga}{O:Nat→Nat→Int}{S S':Nat→List Int}{hv lv dv:Value}{kd b v:Int}{g was:Bool}{w:World}{cb:Nat}
 (hl:lv=aJ) (h:JN j c.h O S w) (hb:Box w cb 118 (mS c hv bc lv (.pointer none) (aO j.pb) dv)) (fL:¬Z4 j c.h.length cb)
 (hD:∀w',JN j c.h O S w'→Calls Tryz.prog 111 #[aO j.pb,.agg #[ah kd,ah b]] w' (E8 j c.h O S' v g was w')):
 Calls Tryz.prog 82 #[aO cb,.agg #[ah kd,ah b]] w
  (GP (fun S lv w=>lv=aJ∧JN j c.h O S w) (Z4 j c.h.length) c hv bc (.pointer none) (aO j.pb) dv cb S' v g was w):=by
 obtain⟨qv,hA⟩:=h;subst hl;have hn:¬aK j.lv cb:=fun e=>fL (.inr (.inl e))
 exact(WL hb hA.bs (fun k hk=>⟨hA.wz k hk,fun e=>hn (e▸hk)⟩) fun w' ho=>hD w' ⟨qv,hA.keep ho⟩).mono fun e w' ⟨h1,h2,h3⟩=>⟨none,0,0,_,h1,⟨rfl,h2⟩,h3.aq hb hn,h3.mono fun k hk=>.inl (.inl (.inr (.inl hk)))⟩
noncomputable def YN {c:aM}{k:Nat}(hk:k<3)(hP:cK c)(hp:c.f 5=2)(j:Ga)(hj:j.t=k):cJ (pJ c k) c k where
 mp:=.pointer none
 pp:=aO j.pb
 F:=Z4 j c.h.length
 B:=j.B
 R:=fun S lv w=>lv=aJ∧JN j c.h (eW c.h (dV c)) S w
 Inv:=dr c.h (eW c.h (dV c)) k
 inv:=fun h=>h.i
 lt:=fun h=>by
  obtain⟨_,qv,h⟩:=h;exact⟨h.bs,fun k hk=>h.ltF hk⟩
 slc:=fun h=>⟨none,0,0,h.1⟩
 dC:=fun h ho hF hB=>by
  obtain⟨h0,qv,h⟩:=h;exact⟨h0,qv,h.dC ho hF hB⟩
 all:=fun {s lv w cb hv dv} h hI hb=>by
  have hle:j.B≤w.heap.size:=by obtain⟨_,qv,h⟩:=h;exact h.bs
  have hI:dr c.h (eW c.h (dV c)) j.t s:=by rw[hj];exact hI
  exact(Ty hb h.2 hI hP.hs).mono fun e w' ⟨v,h1,h2,h3⟩=>⟨v,h1,h2.low hle,h3⟩
 use:=fun {s lv w cb hv dv b} h hI hb fL hm cw=>by
  have hI:dr c.h (eW c.h (dV c)) j.t s:=by rw[hj];exact hI
  have hm:b∈s (bj c.h b):=(hI.mem b).1 hm;exact yY h.1 h.2 hb fL fun w' h'=>WD h' hI hP.hs (hI.at_ hm).2.2 hm (hI.Rk _)
 add:=fun {s lv w cb hv dv b} h hI hb fL h0 h1 ht cw=>by
  have hI:dr c.h (eW c.h (dV c)) j.t s:=by rw[hj];exact hI
  have ht:0<bO c.h (eW c.h (dV c)) b j.t:=by rw[hj];exact ht
  refine yY h.1 h.2 hb fL fun w' h'=>?_
  show Calls _ _ _ _ (E8 j c.h _ (dH c.h (eW c.h (dV c)) k s b).1 (dH c.h (eW c.h (dV c)) k s b).2.1 (dH c.h (eW c.h (dV c)) k s b).2.2 (decide (b∈cW s c.h.length)) w')
  rw[←hj]
  by_cases hm:b∈s (bj c.h b)
  ·rw[decide_eq_true ((hI.mem b).2 hm)];have h5:=WC h' hI hP.hs ⟨h0,h1⟩ hm ht (hI.Rk _);rw[show dH c.h (eW c.h (dV c)) j.t s b=(bD (dh s b) (bj c.h b) b,0,false) by unfold dH;rw[if_pos hm]];exact h5
  ·rw[decide_eq_false (fun e=>hm ((hI.mem b).1 e))]
   by_cases hr:((s (bj c.h b)).length:Int)<bO c.h (eW c.h (dV c)) b j.t
   ·exact FH h' hI hP.hs ⟨h0,h1⟩ hm ht (hI.Rk _) hr
   ·exact FJ h' hI hP.hs ⟨h0,h1⟩ hm ht (hI.Rk _) ao
 rem:=fun {s lv w cb hv dv b} h hI hb fL hm=>by
  have hI:dr c.h (eW c.h (dV c)) j.t s:=by rw[hj];exact hI
  have hm:b∈s (bj c.h b):=(hI.mem b).1 hm;exact yY h.1 h.2 hb fL fun w' h'=>WA h' hI hP.hs (hI.at_ hm).2.2 hm (hI.Rk _)
 takes:=fun b level h _ hb=>La b level hb h.2 hP hp hj
def lu (w:World)(v:Value)(l:List Int):Prop:=Row 5 w v (bytes l)∧l.length≤1000000
theorem gq (l:List Int):(bytes l).length=l.length:=List.length_map ..
theorem lu.Yt {w:World}{v:Value}{l:List Int}(h:lu w v l):nD w v l:=Row.Yt h.1 (by have:=h.2;omega)
theorem lu.aA {S:Nat→Prop}{w w':World}{v:Value}{l:List Int}(h:lu w v l)(ho:ag S w w')(hn:∀k,aK v k→¬S k):lu w' v l:=⟨h.1.aA ho hn,h.2⟩
theorem lu.keep {w w':World}{v:Value}{l:List Int}(h:lu w v l)(ho:ag az w w'):lu w' v l:=h.aA ho fun _ _=>id
theorem lu.shape {w:World}{v:Value}{l:List Int}(h:lu w v l):∃A c,v= .slice A l.length c:=by
 obtain⟨A,c,e,_⟩:=h.1.shape;exact⟨A,c,by rw[e];simp⟩
theorem lu.nil (w:World):lu w aJ []:=⟨Row.vK _ _,dT _⟩
structure JO where
 cb:Nat
 db:Nat
 dc:Nat
 hv:Value
def ke {K:aZ}{c:aM}{k:Nat}(o:cJ K c k)(i:JO):Nat→Prop:=fun k=>o.F k∨k=i.cb∨k=i.db
structure iW {K:aZ}{c:aM}{k:Nat}(o:cJ K c k)(i:JO)(s:K.σ)(lv:Value)(dv:Nat→Value)(Dr:Nat→List Int)(w:World):Prop where
 ord:o.R s lv w
 aq:Box w i.cb 118 (mS c i.hv ((k+1:Nat):Int) lv o.mp o.pp (aU i.db 32 i.dc))
 row:Row 35 w (aU i.db 32 i.dc) (Gi 32 dv)
 ed:∀b,b<32→lu w (dv b) (Dr b)∧∀j,aK (dv b) j→o.B≤j
 Q4:i.cb<o.B∧¬o.F i.cb
 Vk:i.db<o.B∧¬o.F i.db
 ne:i.cb≠i.db
 right:cK c
def ta {K:aZ}{c:aM}{k:Nat}(o:cJ K c k)(i:JO)(s:K.σ)(Dr:Nat→List Int)(w:World):Prop:=∃lv dv,iW o i s lv dv Dr w
section
variable {K:aZ}{c:aM}{k:Nat}{o:cJ K c k}{i:JO}{s:K.σ}{lv:Value}{dv:Nat→Value}{Dr:Nat→List Int}{w w':World}{S:Nat→Prop}
theorem iW.dC (h:iW o i s lv dv Dr w)(ho:ag S w w')(hF:∀k,ke o i k→¬S k)(hS:∀k cs,S k→o.B≤k→¬Box w k 3 cs∧¬Box w k 5 cs):iW o i s lv dv Dr w' where
 ord:=o.dC h.ord ho (fun k hk=>hF k (.inl hk)) fun k cs h1 h2=>(hS k cs h1 h2).1
 aq:=ho.aq h.aq (hF _ (.inr (.inl rfl)))
 row:=h.row.aA ho fun k hk=>hF k (.inr (.inr (aG.1 hk).symm))
 ed:=fun b hb=>⟨(h.ed b hb).1.aA ho fun k hk e=>by
  obtain⟨cs,h2⟩:=(h.ed b hb).1.1.aq hk;exact(hS k cs e ((h.ed b hb).2 k hk)).2 h2,(h.ed b hb).2⟩
 Q4:=h.Q4
 Vk:=h.Vk
 ne:=h.ne
 right:=h.right
theorem iW.keep (h:iW o i s lv dv Dr w)(ho:ag az w w'):iW o i s lv dv Dr w':=h.dC ho (fun _ _=>id) fun _ _ h=>h.elim
theorem iW.bs (h:iW o i s lv dv Dr w):o.B≤w.heap.size:=(o.lt h.ord).1
theorem iW.kB (h:iW o i s lv dv Dr w){j:Nat}(hj:ke o i j):j<o.B:=by
 rcases hj with hj|rfl|rfl
 ·exact(o.lt h.ord).2 j hj
 ·exact h.Q4.1
 ·exact h.Vk.1
theorem iW.mK (h:iW o i s lv dv Dr w){g:Nat}{t:TypeId}{cs:Array Value}(hb:Box w g t cs)(h1:3≠t)(h2:5≠t)(hF:¬ke o i g)(ho:ag (ar g) w w'):iW o i s lv dv Dr w':=
 h.dC ho (fun k hk e=>hF (show ke o i g from(show k=g from e)▸hk)) fun k cs2 hk _=>by
  obtain rfl:k=g:=hk;exact⟨fun dX=>h1 (dX.same hb).1,fun dX=>h2 (dX.same hb).1⟩
theorem iW.Kr (h:iW o i s lv dv Dr w){g:Nat}(hg:w.heap.size≤g):¬ke o i g:=fun e=>by have:=h.kB e;have:=h.bs;omega
theorem ta.dC (h:ta o i s Dr w)(ho:ag S w w')(hF:∀k,ke o i k→¬S k)(hS:∀k cs,S k→o.B≤k→¬Box w k 3 cs∧¬Box w k 5 cs):ta o i s Dr w':=by
 obtain⟨lv,dv,h⟩:=h;exact⟨lv,dv,h.dC ho hF hS⟩
theorem ta.keep (h:ta o i s Dr w)(ho:ag az w w'):ta o i s Dr w':=h.dC ho (fun _ _=>id) fun _ _ h=>h.elim
theorem ta.bs (h:ta o i s Dr w):o.B≤w.heap.size:=by
 obtain⟨lv,dv,h⟩:=h;exact h.bs
theorem ta.kB (h:ta o i s Dr w){j:Nat}(hj:ke o i j):j<o.B:=by
 obtain⟨lv,dv,h⟩:=h;exact h.kB hj
theorem iW.yh (h:iW o i s lv dv Dr w):aE w i.cb 21 (aU i.db 32 i.dc):=adR h.aq
theorem iW.cd (h:iW o i s lv dv Dr w){n:Nat}(hn:n<32):aE w i.db n (dv n)∧w.frozen? ⟨i.db,n,none⟩=false:=by
 obtain⟨g,cc,e,h1,h2⟩:=h.row.cell (KT 32 dv hn);injection e with e;injection e with e;injection e with e;subst e;exact⟨h1,h2⟩
theorem iW.Aj {s':K.σ}{lv':Value}(h:iW o i s lv dv Dr w)(hR:o.R s' lv' w')(hb:Box w' i.cb 118 (mS c i.hv ((k+1:Nat):Int) lv' o.mp o.pp (aU i.db 32 i.dc)))(ho:ag (NP o.F i.cb) w w'):iW o i s' lv' dv Dr w' where
 ord:=hR
 aq:=hb
 row:=h.row.aA ho fun k hk e=>by
  have hk:=aG.1 hk;rcases e with e|e
  ·exact h.Vk.2 (hk▸e)
  ·exact h.ne (by rw[hk,e])
 ed:=fun b dX=>⟨(h.ed b dX).1.aA ho fun k hk e=>by
  have h1:=(h.ed b dX).2 k hk;rcases e with e|e
  ·have:=(o.lt h.ord).2 k e;omega
  ·have:=h.Q4.1;omega,(h.ed b dX).2⟩
 Q4:=h.Q4
 Vk:=h.Vk
 ne:=h.ne
 right:=h.right
def aed (o:cJ K c k)(i:JO)(s':K.σ)(Dr:Nat→List Int)(n:Nat)(w:World)(e:Ending)(w':World):Prop:=
 ∃v,e= .returned (.tuple #[v,.bool true])∧lu w' v (Dr n)∧(∀j,aK v j→o.B≤j)∧ta o i s' Dr w'∧ag (ke o i) w w'
def ab2 (o:cJ K c k)(i:JO)(s':K.σ)(Dr:Nat→List Int)(n:Nat)(w:World)(e:Ending)(w':World):Prop:=
 ∃v,e= .returned (.tuple #[.agg #[ah n,v],.bool true])∧lu w' v (Dr n)∧(∀j,aK v j→o.B≤j)∧ta o i s' Dr w'∧ag (ke o i) w w'
theorem MW (h:ta o i s Dr w)(hI:o.Inv s):Calls Tryz.prog 28 #[aO i.cb] w (DT o.B (K.sp.all s) w):=by
 obtain⟨lv,dv,h⟩:=h;exact o.all h.ord hI h.aq
theorem AH {b:Int}(h:ta o i s Dr w)(hI:o.Inv s):Calls Tryz.prog 43 #[aO i.cb,ah b] w fun e w'=>e= .returned (.bool (decide (b∈K.sp.all s)))∧ag az w w':=
 Fg (MW h hI)
theorem zc (b level:Int)(h:ta o i s Dr w)(hI:o.Inv s):Calls Tryz.prog 121 #[aO i.cb,ah b,ah level] w fun e w'=>e= .returned (.bool (fj c k b level))∧ag az w w':=by
 obtain⟨lv,dv,h⟩:=h;exact o.takes b level h.ord hI h.aq
theorem NP.uT {j:Nat}(h:NP o.F i.cb j):ke o i j:=Or.elim h .inl fun h=>.inr (.inl h)
end
section
variable {K:aZ}{c:aM}{k:Nat}{o:cJ K c k}{i:JO}{s:K.σ}{Dr:Nat→List Int}{w:World}
theorem Lm {n:Nat}(h:ta o i s Dr w)(hI:o.Inv s)(hb:(n:Int)∈K.sp.all s)(hn:n<32)(cw:K.sp.eE s<bN):
 Calls Tryz.prog 47 #[aO i.cb,ah n] w (aed o i (K.sp.use s n) Dr n w):=by
 have HH:=AH (b:=(n:Int)) h hI;rw[decide_eq_true hb]at HH;have HH:=ae HH;obtain⟨lv,dv,h⟩:=h;have HU:=ae fun(W:World) (hC:iW o i s lv dv Dr W)=>o.use hC.ord hI hC.aq hC.Q4.2 hb cw
 have H:=ae h;have HN:=ae hn;clear h hI hb cw hn
 go_enter Tryz.func47,Tryz.ntmps47
 go_upto_region 3 with(go_at_call 43;refine HH.mono ?_;rintro e W1 ⟨rfl,aR⟩);have H1:=ae<|H.keep aR;have aX:=ae aR;clear aR H HH;go_upto_region 4 with(go_at_call 82;refine(HU W1 H1).mono ?_;rintro e W2 ⟨A,m1,m2,lv2,rfl,h1,h2,h3⟩);have H2:=ae<|H1.Aj h1 h2 h3;have bf:=ae h3;clear h1 h2 h3;have x1:=H2.yh;have x2:=(H2.cd HN).1;have HD:=ae<|H2.ed n HN;have wJ:(0:Int)≤(n:Int):=Int.natCast_nonneg n;have sS:(n:Int)<32:=by have:=HN.out;omega
 go_wp2_with fail;go_ret2;exact⟨_,rfl,HD.1,HD.2,⟨_,_,H2⟩,(aX.mono fun _ h=>h.elim).trans (bf.mono fun j hj=>.inl (NP.uT hj))⟩
theorem Je {b:Int}(h:ta o i s Dr w)(hI:o.Inv s)(hb:b∉K.sp.all s):
 Calls Tryz.prog 44 #[aO i.cb,ah b] w fun e w'=>e= .returned (.tuple #[.agg zF,.bool false])∧ag az w w':=by
 have HB:=ae<|Box.fresh w 102 zF;have HO:=ae<|(ag.aj az w).alloc (.cells zF 102);have HH:=AH (b:=b) (h.keep HO) hI;rw[decide_eq_false hb]at HH;have HH:=ae HH;clear h hI hb
 go_enter Tryz.func44,Tryz.ntmps44
 go_upto_region 1 with fail;change Code.wp _ _ _ _ (w.alloc (.cells zF 102));generalize w.alloc (.cells zF 102)=W at *;obtain⟨rb,jO⟩:∃rb,rb=w.heap.size:=⟨_,rfl⟩;have vG:=aB (w.heap.size≤rb) (Nat.le_of_eq jO.symm);rw[←jO]at HB ⊢;clear jO;go_upto_region 2 with(go_at_call 43;refine HH.mono ?_;rintro e W1 ⟨rfl,aR⟩);have bU:=ae<|aR.aq HB id;have aX:=ae<|HO.trans aR;clear aR;go_wp2_with (refine fJ zF bU gM ?_);refine bodyPost_ret (pM rfl _ _ rb _ zF (0,0) _ rfl (bU.au _) Tryz.underlying102 rfl bZ) rfl ?_;exact⟨rfl,aX.au (.inr vG) _⟩
theorem Jf {n:Nat}(h:ta o i s Dr w)(hI:o.Inv s)(hb:(n:Int)∈K.sp.all s)(hn:n<32):
 Calls Tryz.prog 44 #[aO i.cb,ah n] w (ab2 o i (K.sp.rem s n) Dr n w):=by
 have HB:=ae<|Box.fresh w 102 zF;have HO:=ae<|(ag.aj az w).alloc (.cells zF 102);have HH:=AH (b:=(n:Int)) (h.keep HO) hI;rw[decide_eq_true hb]at HH;have HH:=ae HH;obtain⟨lv,dv,h⟩:=h;have HU:=ae fun(W:World) (hC:iW o i s lv dv Dr W)=>o.rem hC.ord hI hC.aq hC.Q4.2 hb
 have HW:=ae fun(g:Nat) (hg:w.heap.size≤g)=>h.Kr hg
 have H:=ae<|h.keep HO;have HN:=ae hn;clear h hI hb hn
 go_enter Tryz.func44,Tryz.ntmps44
 go_upto_region 1 with fail;change Code.wp _ _ _ _ (w.alloc (.cells zF 102));generalize w.alloc (.cells zF 102)=W at *;obtain⟨rb,jO⟩:∃rb,rb=w.heap.size:=⟨_,rfl⟩;have vG:=aB (w.heap.size≤rb) (Nat.le_of_eq jO.symm);rw[←jO]at HB ⊢;clear jO;go_upto_region 3 with(go_at_call 43;refine HH.mono ?_;rintro e W1 ⟨rfl,aR⟩);have H1:=ae<|H.keep aR;have bU:=ae<|aR.aq HB id;have aX:=ae<|HO.trans aR;clear aR H HH HB HO;go_upto_region 4 with(go_at_call 82;refine(HU W1 H1).mono ?_;rintro e W2 ⟨A,m1,m2,lv2,rfl,h1,h2,h3⟩);have H2:=ae<|H1.Aj h1 h2 h3;have cO:=ae<|h3.aq bU fun e=>HW rb vG (NP.uT e);have bf:=ae<|(aX.mono (S':=ke o i) fun _ h=>h.elim).trans (h3.mono fun j hj=>.inl (NP.uT hj));clear h1 h2 h3;have x1:=H2.yh;have x2:=(H2.cd HN).1;obtain⟨h5,h6⟩:=H2.ed n HN;obtain⟨A5,c5,e5⟩:=h5.shape;rw[e5]at h5 h6 x2;have HD:=ae h5;have HE:=ae h6;have wJ:(0:Int)≤(n:Int):=Int.natCast_nonneg n;have sS:(n:Int)<32:=by have:=HN.out;omega
 clear h5 h6 e5;generalize(Dr n).length=len at *;go_wp2_with (refine fJ #[ah n,.slice A5 len c5] cO a6 ?_);refine bodyPost_ret (pM rfl _ _ rb _ #[ah n,.slice A5 len c5] (0,0) _ rfl (cO.au _) Tryz.underlying102 rfl bZ) rfl ?_;have iK:ag (ar rb) W2 (W2.setRow rb #[ah n,.slice A5 len c5]):=(ag.aj (ar rb) W2).au (.inl (show ar rb rb from rfl)) _;refine⟨_,rfl,HD.aA iK fun j hj e=>?_,HE,⟨_,_,H2.mK cO aD aD (HW rb vG) iK⟩,bf.au (.inr vG) _⟩;obtain⟨cs,hb⟩:=HD.1.aq hj;exact hb.off cO aD e
end
section
variable {K:aZ}{c:aM}{k:Nat}{o:cJ K c k}{i:JO}{s:K.σ}{lv:Value}{dv:Nat→Value}{Dr:Nat→List Int}{w w':World}
theorem iW.acm (h:iW o i s lv dv Dr w){n:Nat}(hn:n<32){v:Value}{dl:List Int}(hv:lu w v dl)(hB:∀j,aK v j→o.B≤j):iW o i s lv (aI dv n v) (aI Dr n dl) (w.setCell ⟨i.db,n,none⟩ v):=by
 have ho:ag (ar i.db) w (w.setCell ⟨i.db,n,none⟩ v):=(ag.aj (ar i.db) w).setCell (p:=⟨i.db,n,none⟩) (.inl (show ar i.db i.db from rfl)) v;have hne:∀j,o.B≤j→¬ar i.db j:=fun j hj e=>by have e:j=i.db:=e;have:=h.Vk.1;omega
 refine⟨o.off h.ord ho (fun j hj e=>h.Vk.2 ((show j=i.db from e)▸hj)) fun j hj _=>hne j hj,ho.aq h.aq h.ne,?_,fun b hb=>?_,h.Q4,h.Vk,h.ne,h.right⟩
 ·have:=h.row.store (i:=n) (by rw[xn];exact hn) v (aG.2 rfl);rwa [Fw]at this
 ·unfold aI
  by_cases e:b=n
  ·rw[if_pos e,if_pos e];exact⟨hv.aA ho fun j hj=>hne j (hB j hj),hB⟩
  ·rw[if_neg e,if_neg e];exact⟨(h.ed b hb).1.aA ho fun j hj=>hne j ((h.ed b hb).2 j hj),(h.ed b hb).2⟩
theorem ag.db {o:cJ K c k}{i:JO}{n:Nat}{v:Value}:ag (ke o i) w (w.setCell ⟨i.db,n,none⟩ v):=(ag.aj _ w).setCell (p:=⟨i.db,n,none⟩) (.inl (.inr (.inr rfl))) v
end
section
variable {K:aZ}{c:aM}{k:Nat}{o:cJ K c k}{i:JO}{s:K.σ}{Dr:Nat→List Int}{w:World}
end
end Go.Proofs.YtchofaecncibjaaGreat

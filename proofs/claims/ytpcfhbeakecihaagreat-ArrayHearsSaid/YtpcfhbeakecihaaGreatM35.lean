/- Lemmas. -/
import Derived.Test.YtpcfhbeakecihaaGreatM31
import Derived.Test.YtpcfhbeakecihaaGreatM34
set_option linter.all false
set_option maxHeartbeats 20000000
set_option maxRecDepth 100000
namespace Go.Proofs.YtpcfhbeakecihaaGreat
open Go.ChangeShapes Go.RowKit Go.WideShapes
structure Az where
 pb:Nat
 lv:Value
 ob:Nat
 A:Option Addr
 c:Nat
 t:Nat
 B:Nat
def aau (j:Az)(n:Nat):Array Value:=#[.slice j.A n j.c,bp j.ob (n*4) (n*4),ah ((j.t+1:Nat):Int),j.lv]
structure gN (j:Az)(l:List aH)(O:Nat→Nat→Int)(qv:Nat→Value)(S:Nat→List Int)(w:World):Prop where
 ak:Box w j.pb 143 (aau j l.length)
 row:Row 47 w j.lv (AQ l.length qv)
 q:∀i,i<l.length→aA 3 w j.B (qv i) (S i)
 bL:aX w j.A l.length j.c l
 prt:Box w j.ob 3 (kY l.length O)
 t3:j.t<3
 QF:j.pb<j.B
 r8:∀k,aJ j.lv k→k<j.B
 RV:j.ob<j.B
 Nw:0<l.length→∀k o,j.A=some ⟨k,o,none⟩→k<j.B∧¬aJ j.lv k
 bs:j.B≤w.heap.size
def Si (j:Az)(n:Nat):Nat→Prop:=fun k=>k=j.pb∨aJ j.lv k∨k=j.ob∨(0<n∧∃o,j.A=some ⟨k,o,none⟩)
def Df (j:Az)(l:List aH)(O:Nat→Nat→Int)(S:Nat→List Int)(w:World):Prop:=∃qv,gN j l O qv S w
theorem aX.off {F:Nat→Prop}{w w':World}{A:Option Addr}{n c:Nat}{l:List aH}(h:aX w A n c l)(ho:af F w w')(hF:0<l.length→∀k o,A=some ⟨k,o,none⟩→¬F k):aX w' A n c l:=
 ⟨h.len,h.cap,h.max,fun i hi=>by
  obtain⟨g,o,e,hg,h0,h1,h2,h3⟩:=h.at_ i hi;have hn:=hF aj g o e;exact⟨g,o,e,Nat.lt_of_lt_of_le hg ho.size,ho.cell h0 hn,ho.cell h1 hn,ho.cell h2 hn,ho.cell h3 hn⟩⟩
theorem aX.blk {w:World}{A:Option Addr}{n c:Nat}{l:List aH}(h:aX w A n c l)(h0:0<l.length){k o:Nat}(e:A=some ⟨k,o,none⟩):k<w.heap.size:=by
 obtain⟨g,o',e',hg,_⟩:=h.at_ 0 h0;rw[e]at e';injection e' with e';injection e' with e1;subst e1;exact hg
section
variable {j:Az}{l:List aH}{O:Nat→Nat→Int}{qv:Nat→Value}{S S':Nat→List Int}{w w':World}
theorem gN.off {F:Nat→Prop}(h:gN j l O qv S w)(ho:af F w w')(hF:∀k,Si j l.length k→¬F k)(hB:∀k,j.B≤k→k<w.heap.size→¬F k):gN j l O qv S w':=
 ⟨ho.ak h.ak (hF _ (.inl rfl)),h.row.ar ho fun k hk=>hF k (.inr (.inl hk)),fun i hi=>(h.q i hi).ar ho fun g hg=>hB g ((h.q i hi).lt g hg).1 ((h.q i hi).lt g hg).2,
  h.bL.off ho fun h0 k o e=>hF k (.inr (.inr (.inr ⟨h0,o,e⟩))),ho.ak h.prt (hF _ (.inr (.inr (.inl rfl)))),h.t3,h.QF,h.r8,h.RV,h.Nw,Nat.le_trans h.bs ho.size⟩
theorem gN.ltF (h:gN j l O qv S w){k:Nat}(hk:Si j l.length k):k<j.B:=by
 rcases hk with rfl|hk|rfl|⟨h0,o,e⟩
 ·exact h.QF
 ·exact h.r8 k hk
 ·exact h.RV
 ·exact(h.Nw h0 k o e).1
theorem gN.keep (h:gN j l O qv S w)(ho:af au w w'):gN j l O qv S w':=h.off ho (fun _ _=>id) fun _ _ _=>id
theorem gN.congr (h:gN j l O qv S w)(hS:∀i,i<l.length→S i=S' i):gN j l O qv S' w:=
 ⟨h.ak,h.row,fun i hi=>hS i hi▸h.q i hi,h.bL,h.prt,h.t3,h.QF,h.r8,h.RV,h.Nw,h.bs⟩
theorem gN.c0 (h:gN j l O qv S w):aM w j.pb 0 (.slice j.A l.length j.c):=h.ak.ag rfl
theorem gN.c1 (h:gN j l O qv S w):aM w j.pb 1 (bp j.ob (l.length*4) (l.length*4)):=h.ak.ag rfl
theorem gN.c2 (h:gN j l O qv S w):aF w j.pb 2 ((j.t+1:Nat):Int):=h.ak.ag rfl
theorem gN.c3 (h:gN j l O qv S w):aM w j.pb 3 j.lv:=h.ak.ag rfl
theorem gN.cq (h:gN j l O qv S w){i:Nat}(hi:i<l.length):∃g c,j.lv=bp g l.length c∧aM w g i (qv i)∧w.frozen? ⟨g,i,none⟩=false:=by
 obtain⟨g,c,e,h1,h2⟩:=h.row.cell (DO l.length qv hi);rw[sB]at e;exact⟨g,c,e,h1,h2⟩
theorem gN.tj (h:gN j l O qv S w){k:Nat}(hk:k<l.length){g:Nat}(hg:aJ j.lv g){v:Value}{L:List Int}(hv:aA 3 w j.B v L):gN j l O (ba qv k v) (ba S k L) (w.setCell ⟨g,k,none⟩ v):=by
 obtain⟨cs,hb⟩:=h.row.ak hg;have ho:af (az g) w (w.setCell ⟨g,k,none⟩ v):=(af.ai (az g) w).setCell (p:=⟨g,k,none⟩) (.inl (show az g g from rfl)) _;have aY:=h.r8 g hg;have nB:∀k,j.B≤k→¬az g k:=fun k hk e=>by have h1:k=g:=e;omega
 have je:=h.row.store (i:=k) (by rw[sB];exact hk) v hg;rw[zI]at je;refine⟨ho.ak h.ak (h.ak.off hb aE),je,fun i hi=>?_,h.bL.off ho fun h0 k o e e2=>?_,ho.ak h.prt (h.prt.off hb aE),h.t3,h.QF,h.r8,h.RV,h.Nw,Nat.le_trans h.bs ho.size⟩
 ·show aA 3 _ j.B (ba qv k v i) (ba S k L i)
  exact od
 ·have h1:k=g:=e2;subst h1;exact(h.Nw h0 k o e).2 hg
end
section
variable {j:Az}{l:List aH}{O:Nat→Nat→Int}{S:Nat→List Int}{w:World}{blocks:Int}
theorem ow{P:Prop}(h:P:=by
 go_wp2_with (go_at_call 125;refine HR.mono ?_;rintro e W1 ⟨rfl,m,rfl⟩);go_ret;exact⟨by rw[HE.out];rfl,m,rfl⟩):P:=h
theorem lS {b:Int}(h:Df j l O S w)(hP:cT blocks l)(hb:0≤b∧b<64):
 Calls Tryz.prog 105 #[aO j.pb,ah b] w fun e w'=>e= .returned (ah (bK l O b j.t))∧∃m,w.drewN m=w':=by
 obtain⟨qv,hA⟩:=h;have E6:=hP.2.2;have UI:=hA.t3;have HR:=ae<|gR b w hA.bL hP hb;have HA:=ae hA;have x0:=hA.c0;clear hA hP
 by_cases hr:aZ l b<l.length
 ·have e1:fl l b=aZ l b:=by unfold fl;rw[if_pos hr]
  have HE:=ae (show bK l O b j.t=O (aZ l b) j.t by unfold bK;rw[if_pos hr]);have xp:=fun m=>(show aF (w.drewN m) j.ob (aZ l b*4+j.t) (O (aZ l b) j.t)from HA.prt.ag (vB l.length O hr aj))
  have x1:=fun m=>(show aM (w.drewN m) j.pb 1 (bp j.ob (l.length*4) (l.length*4))from HA.c1)
  have x2:=fun m=>(show aF (w.drewN m) j.pb 2 ((j.t+1:Nat):Int)from HA.c2)
  rw[e1]at HR;clear e1;generalize aZ l b=r at *;have UM:(0:Int)≤r:=aj;have NC:IntKind.i64.wrap (4*(r:Int))=4*r:=by rw[IntKind.wrap_i64];omega
  have wV:IntKind.i64.wrap (4*(r:Int)+((j.t+1:Nat):Int))=4*r+((j.t+1:Nat):Int):=by rw[IntKind.wrap_i64];omega
  have Dd:IntKind.i64.wrap (4*(r:Int)+((j.t+1:Nat):Int) - 1)=((r*4+j.t:Nat):Int):=by rw[IntKind.wrap_i64];omega
  have QP:((r*4+j.t:Nat):Int)<((l.length*4:Nat):Int):=aj;generalize hI:r*4+j.t=I at *;generalize((j.t+1:Nat):Int)=t1 at *;clear hI
  go_enter Tryz.func105,Tryz.ntmps105
  go_upto_region 4 with(go_at_call 125;refine HR.mono ?_;rintro e W1 ⟨rfl,m,rfl⟩);have x1:=x1 m;have x2:=x2 m;have xp:=xp m;generalize hW:w.drewN m=W at *
  go_quiet (fail)
  go_wp2;go_ret;exact⟨by rw[HE.out];rfl,m+nq,by rw[←hW,World.drewN_drewN]⟩
 ·have e1:fl l b= -1:=by unfold fl;rw[if_neg hr]
  have HE:=ae (show bK l O b j.t=0 by unfold bK;rw[if_neg hr]);rw[e1]at HR;clear e1 hr
  go_enter Tryz.func105,Tryz.ntmps105
  exact ow
theorem sA {b:Int}(h:Df j l O S w)(hI:cz l O j.t S)(hP:cT blocks l)(hb:0≤b∧b<64):
 Calls Tryz.prog 126 #[aO j.pb,ah b] w fun e w'=>e= .returned (.bool (decide (b∈S (aZ l b))))∧∃m,w.drewN m=w':=by
 obtain⟨qv,hA⟩:=h;have E6:=hP.2.2;have HR:=ae<|gR b w hA.bL hP hb;have HA:=ae hA;have x0:=hA.c0;clear hA hP
 by_cases hr:aZ l b<l.length
 ·have e1:fl l b=aZ l b:=by unfold fl;rw[if_pos hr]
  obtain⟨g,c,Va,hq,_⟩:=HA.cq hr;have bf:=HA.q _ hr;obtain⟨A,c2,eq,h1,h2⟩:=bf.shape;have HH:=ae<|fun m=>ef A c2 _ (S (aZ l b)) b (w.drewN m) (by rw[←eq];exact(bf.ar ((af.ai au w).drewN m) fun _ _=>id).at) (Nat.le_trans h1 h2);have x3:=fun m=>(show aM (w.drewN m) j.pb 3 (bp g l.length c)from HA.c3.trans (by rw[Va]))
  rw[eq]at hq;have xq:=fun m=>(show aM (w.drewN m) g (aZ l b) (.slice A (S (aZ l b)).length c2)from hq)
  rw[e1]at HR;clear e1 bf eq h1 h2 hq Va;generalize decide (b∈S (aZ l b))=d at *;generalize(S (aZ l b)).length=ln at *;generalize aZ l b=r at *;have UL:(r:Int)<l.length:=aj;have UM:(0:Int)≤r:=aj
  go_enter Tryz.func126,Tryz.ntmps126
  go_upto_region 2 with(go_at_call 125;refine HR.mono ?_;rintro e W1 ⟨rfl,m,rfl⟩);have x3:=x3 m;have xq:=xq m;have HHm:=ae<|HH m;generalize hW:w.drewN m=W at *;go_wp2_with (go_at_call 18;refine HHm.mono ?_;rintro e W1 ⟨rfl,rfl⟩);go_ret;exact⟨rfl,m,hW⟩
 ·have e1:fl l b= -1:=by unfold fl;rw[if_neg hr]
  have HE:=aq (decide (b∈S (aZ l b))=false) (decide_eq_false fun h2=>hr (hI.at_ h2).2.1);rw[e1]at HR;clear e1 hr hI
  go_enter Tryz.func126,Tryz.ntmps126
  exact ow
end
def bW (v:Int)(g was:Bool):Array Value:=cR aT v g was 0
theorem kf (v:Int)(g was:Bool):(bW v g was).all (·.oneCell')=true:=ij _ _ _ _ _ _ _
section
variable {j:Az}{l:List aH}{O:Nat→Nat→Int}{qv:Nat→Value}{S S':Nat→List Int}{w w':World}
theorem gN.jZ (h:gN j l O qv S w){g:Nat}{cs:Array Value}(hb:Box w g 136 cs)(hg:j.B≤g)(ho:af (az g) w w'):gN j l O qv S w':=by
 have n1:∀k,k<j.B→¬az g k:=fun k hk e=>by have h1:k=g:=e;omega
 exact⟨ho.ak h.ak (n1 _ h.QF),h.row.ar ho fun k hk=>n1 k (h.r8 k hk),fun i hi=>(h.q i hi).ar ho fun k hk e=>by
  obtain⟨c2,h2⟩:=(h.q i hi).gb hk;exact(h2.off hb aE) e,h.bL.off ho fun h0 k o e=>n1 k (h.Nw h0 k o e).1,ho.ak h.prt (n1 _ h.RV),h.t3,h.QF,h.r8,h.RV,h.Nw,Nat.le_trans h.bs ho.size⟩
end
def zc (j:Az)(l:List aH)(O:Nat→Nat→Int)(S':Nat→List Int)(v:Int)(g was:Bool)(w:World)(e:Ending)(w':World):Prop:=
 e= .returned (.agg (bW v g was))∧Df j l O S' w'∧af (aJ j.lv) w w'
theorem DN {l:List aH}{O:Nat→Nat→Int}{t:Nat}{S:Nat→List Int}(h:cz l O t S)(b:Int)(i:Nat):ba S (aZ l b) ((S (aZ l b)).erase b) i=cu S b i:=by
 unfold ba cu
 by_cases e:i=aZ l b
 ·rw[if_pos e,e]
 ·rw[if_neg e,List.erase_of_not_mem fun h2=>e (h.at_ h2).1]
section
variable {j:Az}{l:List aH}{O:Nat→Nat→Int}{S:Nat→List Int}{w:World}{blocks:Int}{b:Int}
theorem dP{P:Prop}(h:P:=by
 rw[Bb.out]at e;injection e with e e2;injection e with e;injection e with e;rw[e];exact h1):P:=h
theorem nF{P:Prop}(h:P:=by
 obtain⟨g,c,e,h1,_⟩:=ga.cq HR;exact dP):P:=h
theorem aR{P:Prop}(h:P:=by rw[Bb.out];exact aD.2 rfl):P:=h
theorem nO{P:Prop}(h:P:=by
 obtain⟨cs,hb⟩:=(ga.keep kL).row.ak (k:=lg) aR;exact hb.free r):P:=h
theorem fh{P:Prop}(h:P:=by obtain⟨g,c,e,_⟩:=ga.cq HR.out;exact⟨g,c,e⟩):P:=h
theorem eX{P:Prop}(h:P:=by have h9:=fF.out;rw[rf.out]at h9;exact h9):P:=h
theorem eU{P:Prop}(h:P:=by have:=pJ.out;have:=dt.out;omega):P:=h
theorem ff{P:Prop}(h:P:=by have:=dt.out;omega):P:=h
theorem bT{P:Prop}(h:P:=by rw[Bb.out]):P:=h
theorem O6 (h:Df j l O S w)(hI:cz l O j.t S)(hP:cT blocks l)(tZ:0≤b∧b<64)(hb:b∈S (aZ l b))(sj:(S (aZ l b)).length≤64):
 Calls Tryz.prog 106 #[aO j.pb,.agg #[ah 2,ah b]] w (zc j l O (cu S b) 0 false true w):=by
 have hr:=(hI.at_ hb).2.1;have rf:=aq (decide (b∈S (aZ l b))=true) (decide_eq_true hb);have xk:=ae sj;clear hb sj;obtain⟨qv,hA⟩:=h;have E6:=hP.2.2;have qx:=ae tZ;have me:=ae hP;have HI:=ae hI;have e1:fl l b=aZ l b:=by unfold fl;rw[if_pos hr]
 have dZ:=ae<|Box.fresh w 139 #[ah 2,ah b];have aK:af au w (w.alloc (.cells #[ah 2,ah b] 139)):=(af.ai au w).alloc _;have bc:=ae aK;have Fg:=ae<|hA.keep aK;have pJ:=ae hA.bs;obtain⟨r,yP⟩:∃r,r=aZ l b:=⟨_,rfl⟩;have uX:=ae yP;have HR:=ae (show r<l.length by rw[yP];exact hr);have UL:(r:Int)<l.length:=aj;have UM:(0:Int)≤r:=aj;clear hA aK hP hI hr yP
 go_enter Tryz.func106,Tryz.ntmps106
 go_upto_region 1 with fail;change Code.wp _ _ _ _ ((w.alloc (.cells #[ah 2,ah b] 139)).alloc (.cells (bW 0 false false) 136));have hsz:(w.alloc (.cells #[ah 2,ah b] 139)).heap.size=w.heap.size+1:=World.size_alloc ..;generalize w.alloc (.cells #[ah 2,ah b] 139)=W0 at *;obtain⟨ab,fS⟩:∃ab,ab=w.heap.size:=⟨_,rfl⟩;rw[←fS]at dZ hsz ⊢;have lj:=aq (w.heap.size≤ab) (Nat.le_of_eq fS.symm);clear fS;have cy:=ae<|Box.fresh W0 136 (bW 0 false false);have aK:af au W0 (W0.alloc (.cells (bW 0 false false) 136)):=(af.ai au W0).alloc _;have iR:=ae<|aK.ak dZ id;have bu:=ae<|bc.trans aK;have dt:=aq (w.heap.size≤W0.heap.size) (bc.size);have ml:=ae<|Fg.keep aK;clear aK dZ bc Fg;generalize W0.alloc (.cells (bW 0 false false) 136)=W1 at *;rw[hsz]at cy dt;clear hsz;generalize ab+1=rb at *;have fF:=ae<|sA (b:=b) ⟨qv,ml⟩ HI me qx;have fF:Hid (Calls Tryz.prog 126 #[aO j.pb,ah b] W1 fun e w'=>e= .returned (.bool true)∧∃m,W1.drewN m=w'):=ae eX;have y0:aF W1 ab 0 2:=iR.ag rfl;have y1:aF W1 ab 1 b:=iR.ag rfl;go_upto_region 2 with(go_at_call 126;refine fF.mono ?_;rintro e Wm ⟨rfl,m,hm⟩;have pA:=aq (af au W1 Wm) (hm▸(af.ai au W1).drewN m);clear hm);change Code.wp _ _ _ _ (Wm.alloc (.cells (bW 0 false true) 136));have aK:af au W1 (Wm.alloc (.cells (bW 0 false true) 136)):=pA.alloc _;have Fq:=ae<|Box.fresh Wm 136 (bW 0 false true);have fX:=ae<|aK.ak cy id;have gj:=ae<|aK.ak iR id;have bI:=ae<|bu.trans aK;have kc:=ae<|ml.keep aK;have eB:=aq (w.heap.size≤Wm.heap.size∧rb<Wm.heap.size) (⟨Nat.le_trans bu.size pA.size,Nat.lt_of_lt_of_le cy.lt pA.size⟩);clear aK fF cy iR bu ml y0 y1 pA;generalize Wm.alloc (.cells (bW 0 false true) 136)=W2 at *;generalize Wm.heap.size=eb at *;have uY:=ae<|fun q=>gR b (W2.drewN q) (kc.bL.ar ((af.ai au W2).drewN q) fun _ _=>id) me qx;rw[e1,←uX.out]at uY;clear e1;have x0:aM W2 j.pb 0 (.slice j.A l.length j.c):=kc.c0;have y1:aF W2 ab 1 b:=gj.ag rfl
 go_quiet ((go_at_call 125;exact sC ((uY _).mono fun _ _ ⟨he,m,hm⟩=>⟨he,m,hm.symm⟩)))
 have ks:=aq (Box (W2.drewN nq) eb 136 (bW 0 false true)) (((af.ai au W2).drewN nq).ak Fq id);have ej:=aq (Box (W2.drewN nq) rb 136 (bW 0 false false)) (((af.ai au W2).drewN nq).ak fX id);have iw:=aq (Box (W2.drewN nq) ab 139 #[ah 2,ah b]) (((af.ai au W2).drewN nq).ak gj id);have cr:=ae<|bI.drewN nq;have ga:=ae<|kc.keep ((af.ai au W2).drewN nq);clear Fq fX gj bI kc uY x0 y1;generalize W2.drewN nq=W3 at *;have y0:aF W3 ab 0 2:=iw.ag rfl;have y1:aF W3 ab 1 b:=iw.ag rfl;have Bb:Hid (∃lg lc,j.lv=bp lg l.length lc):=ae fh;obtain⟨lg,lc,yS⟩:=Bb.out;have Bb:=ae yS;clear yS;have z3:aM W3 eb 3 (.bool true):=ks.ag rfl;have jY:=ae (show(S r).length≤10000 by have:=xk.out;rw[←uX.out]at this;omega);go_upto_region 7 with fail;have k1:aM W3.drew j.pb 3 (bp lg l.length lc):=ga.c3.trans bT;have k2:aM W3.drew lg r (qv r):=by
  exact nF
 have k3:aF W3.drew ab 1 b:=iw.ag rfl;refine pG (fun w':World=>aM w' j.pb 3 (bp lg l.length lc)∧aM w' lg r (qv r)∧aF w' ab 1 b) 15 fun aC=>?_
 refine bE [0,1,2,3,4,5,6,7,8,9,10,11,12,13] ?_;refine cX 14 fun Kc hK=>?_
 go_simp;refine(cB b W3.drew ((ga.q r HR).ar ((af.ai au W3).drew) fun _ _=>id) jY).mono ?_;rintro e W4 ⟨vn,rfl,lG,jc⟩;obtain⟨An,nn,cn,rfl⟩:∃A n c,vn=Value.slice A n c:=by obtain⟨A,c,e,_⟩:=lG.shape;exact⟨A,_,c,e⟩
 have uV:=ae lG;have kL:=ae<|(af.ai au W3).drew.trans jc;have k1:=jc.cell aC.1 id;have k2:=jc.cell aC.2.1 id;have k3:=jc.cell aC.2.2 id;clear lG jc;refine Ai hK fun aC=>?_
 clear hK;refine dE ?_;have Dm:W4.frozen? ⟨lg,r,none⟩=false:=by
  exact nO
 clear aC k3;go_upto_region 8 with fail;have kZ:af (aJ j.lv) W3 (W4.setCell ⟨lg,r,none⟩ (.slice An nn cn)):=(((af.ai (aJ j.lv) W3).cE kL).setCell (p:=⟨lg,r,none⟩) (.inl aR) _);have bf:aA 3 W4 j.B (.slice An nn cn) ((S r).erase b):=by
  have h1:=uV.low ga.bs;rw[erase_filter (HI.nodup r)]at h1;exact h1
 have lr:=ae<|(ga.keep kL).tj HR (g:=lg) aR bf;have rD:=ae<|kZ.ak ks (fun hk=>by have h9:=ga.r8 _ hk;have:=pJ.out;have:=lj.out;have:=dt.out;have:=eB.out;omega);have fY:=ae<|kZ.ak ej (fun hk=>by have h9:=ga.r8 _ hk;have:=pJ.out;have:=lj.out;have:=dt.out;have:=eB.out;omega);have Bf:=ae<|kZ.ak iw (fun hk=>by have h9:=ga.r8 _ hk;have:=pJ.out;have:=lj.out;have:=dt.out;have:=eB.out;omega);have ek:=ae<|(cr.mono fun _ hb=>hb.elim).trans kZ;change Code.wp _ _ _ _ (W4.setCell ⟨lg,r,none⟩ (.slice An nn cn));clear k1 k2 Dm kZ bf ga ks ej iw cr uV kL;generalize W4.setCell ⟨lg,r,none⟩ (.slice An nn cn)=W5 at *;generalize ba qv r (.slice An nn cn)=Ga at *;have y0:aF W5 ab 0 2:=Bf.ag rfl;go_wp2_with (first|(refine iy (bW 0 false true) rD Tryz.underlying136 ?_)|(refine iP (bW 0 false true) fY (kf _ _ _) ?_))
 (try simp only[Exit.inBlock,Exit.then])
 refine bodyPost_ret (results_cell_row rfl _ _ rb _ (bW 0 false true) (0,0) _ rfl (fY.aw _) Tryz.underlying136 rfl aS) rfl ?_;have gM:af (az rb) W5 (W5.setRow rb (bW 0 false true)):=(af.ai (az rb) W5).aw (.inl rfl) _;exact⟨rfl,⟨_,(lr.congr fun i _=>by rw[uX.out];exact DN HI b i).jZ fY eU gM⟩,ek.aw (.inr ff) _⟩
theorem nM{P:Prop}(h:P:=by
 obtain⟨g,c,e,h1,_⟩:=lr.cq HR;exact dP):P:=h
theorem nH{P:Prop}(h:P:=by
 obtain⟨cs,hb⟩:=(lr.keep kL).row.ak (k:=lg) aR;exact hb.free r):P:=h
theorem O9 (h:Df j l O S w)(hI:cz l O j.t S)(hP:cT blocks l)(tZ:0≤b∧b<64)(hb:b∈S (aZ l b))(sj:(S (aZ l b)).length≤64):
 Calls Tryz.prog 106 #[aO j.pb,.agg #[ah 0,ah b]] w (zc j l O (bm (cu S b) (aZ l b) b) 0 false true w):=by
 have hr:=(hI.at_ hb).2.1;have rf:=aq (decide (b∈S (aZ l b))=true) (decide_eq_true hb);have xk:=ae sj;clear hb sj;obtain⟨qv,hA⟩:=h;have E6:=hP.2.2;have qx:=ae tZ;have me:=ae hP;have HI:=ae hI;have e1:fl l b=aZ l b:=by unfold fl;rw[if_pos hr]
 have dZ:=ae<|Box.fresh w 139 #[ah 0,ah b];have aK:af au w (w.alloc (.cells #[ah 0,ah b] 139)):=(af.ai au w).alloc _;have bc:=ae aK;have Fg:=ae<|hA.keep aK;have pJ:=ae hA.bs;obtain⟨r,yP⟩:∃r,r=aZ l b:=⟨_,rfl⟩;have uX:=ae yP;have HR:=ae (show r<l.length by rw[yP];exact hr);have UL:(r:Int)<l.length:=aj;have UM:(0:Int)≤r:=aj;clear hA aK hP hI hr yP
 go_enter Tryz.func106,Tryz.ntmps106
 go_upto_region 1 with fail;change Code.wp _ _ _ _ ((w.alloc (.cells #[ah 0,ah b] 139)).alloc (.cells (bW 0 false false) 136));have hsz:(w.alloc (.cells #[ah 0,ah b] 139)).heap.size=w.heap.size+1:=World.size_alloc ..;generalize w.alloc (.cells #[ah 0,ah b] 139)=W0 at *;obtain⟨ab,fS⟩:∃ab,ab=w.heap.size:=⟨_,rfl⟩;rw[←fS]at dZ hsz ⊢;have lj:=aq (w.heap.size≤ab) (Nat.le_of_eq fS.symm);clear fS;have cy:=ae<|Box.fresh W0 136 (bW 0 false false);have aK:af au W0 (W0.alloc (.cells (bW 0 false false) 136)):=(af.ai au W0).alloc _;have iR:=ae<|aK.ak dZ id;have bu:=ae<|bc.trans aK;have dt:=aq (w.heap.size≤W0.heap.size) (bc.size);have ml:=ae<|Fg.keep aK;clear aK dZ bc Fg;generalize W0.alloc (.cells (bW 0 false false) 136)=W1 at *;rw[hsz]at cy dt;clear hsz;generalize ab+1=rb at *;have fF:=ae<|sA (b:=b) ⟨qv,ml⟩ HI me qx;have fF:Hid (Calls Tryz.prog 126 #[aO j.pb,ah b] W1 fun e w'=>e= .returned (.bool true)∧∃m,W1.drewN m=w'):=ae eX;have y0:aF W1 ab 0 0:=iR.ag rfl;have y1:aF W1 ab 1 b:=iR.ag rfl;go_upto_region 2 with(go_at_call 126;refine fF.mono ?_;rintro e Wm ⟨rfl,m,hm⟩;have pA:=aq (af au W1 Wm) (hm▸(af.ai au W1).drewN m);clear hm);change Code.wp _ _ _ _ (Wm.alloc (.cells (bW 0 false true) 136));have aK:af au W1 (Wm.alloc (.cells (bW 0 false true) 136)):=pA.alloc _;have Fq:=ae<|Box.fresh Wm 136 (bW 0 false true);have fX:=ae<|aK.ak cy id;have gj:=ae<|aK.ak iR id;have bI:=ae<|bu.trans aK;have kc:=ae<|ml.keep aK;have eB:=aq (w.heap.size≤Wm.heap.size∧rb<Wm.heap.size) (⟨Nat.le_trans bu.size pA.size,Nat.lt_of_lt_of_le cy.lt pA.size⟩);clear aK fF cy iR bu ml y0 y1 pA;generalize Wm.alloc (.cells (bW 0 false true) 136)=W2 at *;generalize Wm.heap.size=eb at *;have uY:=ae<|fun q=>gR b (W2.drewN q) (kc.bL.ar ((af.ai au W2).drewN q) fun _ _=>id) me qx;rw[e1,←uX.out]at uY;clear e1;have x0:aM W2 j.pb 0 (.slice j.A l.length j.c):=kc.c0;have y1:aF W2 ab 1 b:=gj.ag rfl
 go_quiet ((go_at_call 125;exact sC ((uY _).mono fun _ _ ⟨he,m,hm⟩=>⟨he,m,hm.symm⟩)))
 have ks:=aq (Box (W2.drewN nq) eb 136 (bW 0 false true)) (((af.ai au W2).drewN nq).ak Fq id);have ej:=aq (Box (W2.drewN nq) rb 136 (bW 0 false false)) (((af.ai au W2).drewN nq).ak fX id);have iw:=aq (Box (W2.drewN nq) ab 139 #[ah 0,ah b]) (((af.ai au W2).drewN nq).ak gj id);have cr:=ae<|bI.drewN nq;have ga:=ae<|kc.keep ((af.ai au W2).drewN nq);clear Fq fX gj bI kc uY x0 y1;generalize W2.drewN nq=W3 at *;have y0:aF W3 ab 0 0:=iw.ag rfl;have y1:aF W3 ab 1 b:=iw.ag rfl;have Bb:Hid (∃lg lc,j.lv=bp lg l.length lc):=ae fh;obtain⟨lg,lc,yS⟩:=Bb.out;have Bb:=ae yS;clear yS;have z3:aM W3 eb 3 (.bool true):=ks.ag rfl;have jY:=ae (show(S r).length≤10000 by have:=xk.out;rw[←uX.out]at this;omega);go_upto_region 7 with fail;have k1:aM W3.drew j.pb 3 (bp lg l.length lc):=ga.c3.trans bT;have k2:aM W3.drew lg r (qv r):=by
  exact nF
 have k3:aF W3.drew ab 1 b:=iw.ag rfl;refine pG (fun w':World=>aM w' j.pb 3 (bp lg l.length lc)∧aM w' lg r (qv r)∧aF w' ab 1 b) 15 fun aC=>?_
 refine bE [0,1,2,3,4,5,6,7,8,9,10,11,12,13] ?_;refine cX 14 fun Kc hK=>?_
 go_simp;refine(cB b W3.drew ((ga.q r HR).ar ((af.ai au W3).drew) fun _ _=>id) jY).mono ?_;rintro e W4 ⟨vn,rfl,lG,jc⟩;obtain⟨An,nn,cn,rfl⟩:∃A n c,vn=Value.slice A n c:=by obtain⟨A,c,e,_⟩:=lG.shape;exact⟨A,_,c,e⟩
 have uV:=ae lG;have kL:=ae<|(af.ai au W3).drew.trans jc;have k1:=jc.cell aC.1 id;have k2:=jc.cell aC.2.1 id;have k3:=jc.cell aC.2.2 id;clear lG jc;refine Ai hK fun aC=>?_
 clear hK;refine dE ?_;have Dm:W4.frozen? ⟨lg,r,none⟩=false:=by
  exact nO
 clear aC k3;go_upto_region 8 with fail;have kZ:af (aJ j.lv) W3 (W4.setCell ⟨lg,r,none⟩ (.slice An nn cn)):=(((af.ai (aJ j.lv) W3).cE kL).setCell (p:=⟨lg,r,none⟩) (.inl aR) _);have bf:aA 3 W4 j.B (.slice An nn cn) ((S r).erase b):=by
  have h1:=uV.low ga.bs;rw[erase_filter (HI.nodup r)]at h1;exact h1
 have lr:=ae<|(ga.keep kL).tj HR (g:=lg) aR bf;have rD:=ae<|kZ.ak ks (fun hk=>by have h9:=ga.r8 _ hk;have:=pJ.out;have:=lj.out;have:=dt.out;have:=eB.out;omega);have fY:=ae<|kZ.ak ej (fun hk=>by have h9:=ga.r8 _ hk;have:=pJ.out;have:=lj.out;have:=dt.out;have:=eB.out;omega);have Bf:=ae<|kZ.ak iw (fun hk=>by have h9:=ga.r8 _ hk;have:=pJ.out;have:=lj.out;have:=dt.out;have:=eB.out;omega);have ek:=ae<|(cr.mono fun _ hb=>hb.elim).trans kZ;change Code.wp _ _ _ _ (W4.setCell ⟨lg,r,none⟩ (.slice An nn cn));clear k1 k2 Dm kZ bf ga ks ej iw cr uV kL;generalize W4.setCell ⟨lg,r,none⟩ (.slice An nn cn)=W5 at *;generalize ba qv r (.slice An nn cn)=Ga at *;generalize A0:ba S r ((S r).erase b)=S5 at *;have l9:=aq (S5=cu S b) (A0▸funext fun i=>(by rw[uX.out];exact DN HI b i));clear A0;have KL:=ae (show(S5 r).length≤10000 by
  have h1:=jY.out;have h2:((S r).erase b).length≤(S r).length:=List.length_erase_le;rw[l9.out]
  show((S r).erase b).length≤10000
  omega)
 have y0:aF W5 ab 0 0:=Bf.ag rfl;go_upto_region 9 with fail;have k1:aM W5.drew j.pb 3 (bp lg l.length lc):=lr.c3.trans bT;have k2:aM W5.drew lg r (Ga r):=by
  exact nM
 have k3:aF W5.drew ab 1 b:=Bf.ag rfl;refine pG (fun w':World=>aM w' j.pb 3 (bp lg l.length lc)∧aM w' lg r (Ga r)∧aF w' ab 1 b) 15 fun aC=>?_
 refine bE [0,1,2,3,4,5,6,7,8,9,10,11,12,13] ?_;refine cX 14 fun Kc hK=>?_
 go_simp;refine(fQ b W5.drew ((lr.q r HR).ar ((af.ai au W5).drew) fun _ _=>id) KL).mono ?_;rintro e W6 ⟨vn,rfl,lG,jc⟩;obtain⟨An,nn,cn,rfl⟩:∃A n c,vn=Value.slice A n c:=by obtain⟨A,c,e,_⟩:=lG.shape;exact⟨A,_,c,e⟩
 have uV:=ae lG;have kL:=ae<|(af.ai au W5).drew.trans jc;have k1:=jc.cell aC.1 id;have k2:=jc.cell aC.2.1 id;have k3:=jc.cell aC.2.2 id;clear lG jc;refine Ai hK fun aC=>?_
 clear hK;refine dE ?_;have Dm:W6.frozen? ⟨lg,r,none⟩=false:=by
  exact nH
 clear aC k3;go_upto_region 10 with fail;have kZ:af (aJ j.lv) W5 (W6.setCell ⟨lg,r,none⟩ (.slice An nn cn)):=(((af.ai (aJ j.lv) W5).cE kL).setCell (p:=⟨lg,r,none⟩) (.inl aR) _);have bf:aA 3 W6 j.B (.slice An nn cn) (b :: S5 r):=by
  have h1:=uV.low lr.bs;exact h1
 have Te:=ae<|(lr.keep kL).tj HR (g:=lg) aR bf;have vk:=ae<|kZ.ak rD (fun hk=>by have h9:=lr.r8 _ hk;have:=pJ.out;have:=lj.out;have:=dt.out;have:=eB.out;omega);have w8:=ae<|kZ.ak fY (fun hk=>by have h9:=lr.r8 _ hk;have:=pJ.out;have:=lj.out;have:=dt.out;have:=eB.out;omega);have pz:=ae<|ek.trans kZ;change Code.wp _ _ _ _ (W6.setCell ⟨lg,r,none⟩ (.slice An nn cn));clear k1 k2 Dm kZ bf lr rD fY ek uV kL;generalize W6.setCell ⟨lg,r,none⟩ (.slice An nn cn)=W7 at *;generalize ba Ga r (.slice An nn cn)=XL at *;go_wp2_with (first|(refine iy (bW 0 false true) vk Tryz.underlying136 ?_)|(refine iP (bW 0 false true) w8 (kf _ _ _) ?_))
 (try simp only[Exit.inBlock,Exit.then])
 refine bodyPost_ret (results_cell_row rfl _ _ rb _ (bW 0 false true) (0,0) _ rfl (w8.aw _) Tryz.underlying136 rfl aS) rfl ?_;have gM:af (az rb) W7 (W7.setRow rb (bW 0 false true)):=(af.ai (az rb) W7).aw (.inl rfl) _;exact⟨rfl,⟨_,(Te.congr fun i _=>by rw[←uX.out,l9.out];rfl).jZ w8 eU gM⟩,pz.aw (.inr ff) _⟩
theorem jv{P:Prop}(h:P:=by
 obtain⟨g,c,e,h1,_⟩:=fp.cq HR;exact dP):P:=h
theorem O8 (h:Df j l O S w)(hI:cz l O j.t S)(hP:cT blocks l)(tZ:0≤b∧b<64)(hb:b∈S (aZ l b))(UO:0<bK l O b j.t)(sj:(S (aZ l b)).length≤64):
 Calls Tryz.prog 106 #[aO j.pb,.agg #[ah 1,ah b]] w (zc j l O (bm (cu S b) (aZ l b) b) 0 false true w):=by
 have hr:=(hI.at_ hb).2.1;have rf:=aq (decide (b∈S (aZ l b))=true) (decide_eq_true hb);have xk:=ae sj;clear hb sj;have hpv:(bK l O b j.t==0)=false:=by simp;omega
 have XV:¬bK l O b j.t=0:=aj;obtain⟨qv,hA⟩:=h;have E6:=hP.2.2;have qx:=ae tZ;have me:=ae hP;have HI:=ae hI;have e1:fl l b=aZ l b:=by unfold fl;rw[if_pos hr]
 have dZ:=ae<|Box.fresh w 139 #[ah 1,ah b];have aK:af au w (w.alloc (.cells #[ah 1,ah b] 139)):=(af.ai au w).alloc _;have bc:=ae aK;have Fg:=ae<|hA.keep aK;have pJ:=ae hA.bs;obtain⟨r,yP⟩:∃r,r=aZ l b:=⟨_,rfl⟩;have uX:=ae yP;have HR:=ae (show r<l.length by rw[yP];exact hr);have UL:(r:Int)<l.length:=aj;have UM:(0:Int)≤r:=aj;clear hA aK hP hI hr yP
 go_enter Tryz.func106,Tryz.ntmps106
 go_upto_region 1 with fail;change Code.wp _ _ _ _ ((w.alloc (.cells #[ah 1,ah b] 139)).alloc (.cells (bW 0 false false) 136));have hsz:(w.alloc (.cells #[ah 1,ah b] 139)).heap.size=w.heap.size+1:=World.size_alloc ..;generalize w.alloc (.cells #[ah 1,ah b] 139)=W0 at *;obtain⟨ab,fS⟩:∃ab,ab=w.heap.size:=⟨_,rfl⟩;rw[←fS]at dZ hsz ⊢;have lj:=aq (w.heap.size≤ab) (Nat.le_of_eq fS.symm);clear fS;have cy:=ae<|Box.fresh W0 136 (bW 0 false false);have aK:af au W0 (W0.alloc (.cells (bW 0 false false) 136)):=(af.ai au W0).alloc _;have iR:=ae<|aK.ak dZ id;have bu:=ae<|bc.trans aK;have dt:=aq (w.heap.size≤W0.heap.size) (bc.size);have ml:=ae<|Fg.keep aK;clear aK dZ bc Fg;generalize W0.alloc (.cells (bW 0 false false) 136)=W1 at *;rw[hsz]at cy dt;clear hsz;generalize ab+1=rb at *;have fF:=ae<|sA (b:=b) ⟨qv,ml⟩ HI me qx;have fF:Hid (Calls Tryz.prog 126 #[aO j.pb,ah b] W1 fun e w'=>e= .returned (.bool true)∧∃m,W1.drewN m=w'):=ae eX;have y0:aF W1 ab 0 1:=iR.ag rfl;have y1:aF W1 ab 1 b:=iR.ag rfl;go_upto_region 2 with(go_at_call 126;refine fF.mono ?_;rintro e Wm ⟨rfl,m,hm⟩;have pA:=aq (af au W1 Wm) (hm▸(af.ai au W1).drewN m);clear hm);change Code.wp _ _ _ _ (Wm.alloc (.cells (bW 0 false true) 136));have aK:af au W1 (Wm.alloc (.cells (bW 0 false true) 136)):=pA.alloc _;have Fq:=ae<|Box.fresh Wm 136 (bW 0 false true);have fX:=ae<|aK.ak cy id;have gj:=ae<|aK.ak iR id;have bI:=ae<|bu.trans aK;have kc:=ae<|ml.keep aK;have eB:=aq (w.heap.size≤Wm.heap.size∧rb<Wm.heap.size) (⟨Nat.le_trans bu.size pA.size,Nat.lt_of_lt_of_le cy.lt pA.size⟩);clear aK fF cy iR bu ml y0 y1 pA;generalize Wm.alloc (.cells (bW 0 false true) 136)=W2 at *;generalize Wm.heap.size=eb at *;have uY:=ae<|fun q=>gR b (W2.drewN q) (kc.bL.ar ((af.ai au W2).drewN q) fun _ _=>id) me qx;rw[e1,←uX.out]at uY;clear e1;have x0:aM W2 j.pb 0 (.slice j.A l.length j.c):=kc.c0;have y1:aF W2 ab 1 b:=gj.ag rfl
 go_quiet ((go_at_call 125;exact sC ((uY _).mono fun _ _ ⟨he,m,hm⟩=>⟨he,m,hm.symm⟩)))
 have ks:=aq (Box (W2.drewN nq) eb 136 (bW 0 false true)) (((af.ai au W2).drewN nq).ak Fq id);have ej:=aq (Box (W2.drewN nq) rb 136 (bW 0 false false)) (((af.ai au W2).drewN nq).ak fX id);have iw:=aq (Box (W2.drewN nq) ab 139 #[ah 1,ah b]) (((af.ai au W2).drewN nq).ak gj id);have cr:=ae<|bI.drewN nq;have ga:=ae<|kc.keep ((af.ai au W2).drewN nq);clear Fq fX gj bI kc uY x0 y1;generalize W2.drewN nq=W3 at *;have y0:aF W3 ab 0 1:=iw.ag rfl;have y1:aF W3 ab 1 b:=iw.ag rfl;have Bb:Hid (∃lg lc,j.lv=bp lg l.length lc):=ae fh;obtain⟨lg,lc,yS⟩:=Bb.out;have Bb:=ae yS;clear yS;have Ds:=ae<|lS (b:=b) ⟨qv,ga⟩ me qx;generalize Bl:bK l O b j.t=pv at *;have OI:=ae Bl;clear Bl;go_upto_region 6 with(go_at_call 105;refine Ds.mono ?_;rintro e Wp ⟨rfl,m,hm⟩;have xG:=aq (af au W3 Wp) (hm▸(af.ai au W3).drewN m);clear hm);have vq:=ae<|xG.ak ks id;have Bt:=ae<|xG.ak ej id;have rF:=ae<|xG.ak iw id;have Bv:=ae<|cr.trans xG;have fp:=ae<|ga.keep xG;clear y0 y1 Ds ks ej iw cr ga xG;have y0:aF Wp ab 0 1:=rF.ag rfl;have y1:aF Wp ab 1 b:=rF.ag rfl;have z3:aM Wp eb 3 (.bool true):=vq.ag rfl;have jY:=ae (show(S r).length≤10000 by have:=xk.out;rw[←uX.out]at this;omega);go_upto_region 7 with fail;have k1:aM Wp.drew j.pb 3 (bp lg l.length lc):=fp.c3.trans bT;have k2:aM Wp.drew lg r (qv r):=by
  exact jv
 have k3:aF Wp.drew ab 1 b:=rF.ag rfl;refine pG (fun w':World=>aM w' j.pb 3 (bp lg l.length lc)∧aM w' lg r (qv r)∧aF w' ab 1 b) 15 fun aC=>?_
 refine bE [0,1,2,3,4,5,6,7,8,9,10,11,12,13] ?_;refine cX 14 fun Kc hK=>?_
 go_simp;refine(cB b Wp.drew ((fp.q r HR).ar ((af.ai au Wp).drew) fun _ _=>id) jY).mono ?_;rintro e W4 ⟨vn,rfl,lG,jc⟩;obtain⟨An,nn,cn,rfl⟩:∃A n c,vn=Value.slice A n c:=by obtain⟨A,c,e,_⟩:=lG.shape;exact⟨A,_,c,e⟩
 have uV:=ae lG;have kL:=ae<|(af.ai au Wp).drew.trans jc;have k1:=jc.cell aC.1 id;have k2:=jc.cell aC.2.1 id;have k3:=jc.cell aC.2.2 id;clear lG jc;refine Ai hK fun aC=>?_
 clear hK;refine dE ?_;have Dm:W4.frozen? ⟨lg,r,none⟩=false:=by
  obtain⟨cs,hb⟩:=(fp.keep kL).row.ak (k:=lg) aR;exact hb.free r
 clear aC k3;go_upto_region 8 with fail;have kZ:af (aJ j.lv) Wp (W4.setCell ⟨lg,r,none⟩ (.slice An nn cn)):=(((af.ai (aJ j.lv) Wp).cE kL).setCell (p:=⟨lg,r,none⟩) (.inl aR) _);have bf:aA 3 W4 j.B (.slice An nn cn) ((S r).erase b):=by
  have h1:=uV.low fp.bs;rw[erase_filter (HI.nodup r)]at h1;exact h1
 have lr:=ae<|(fp.keep kL).tj HR (g:=lg) aR bf;have rD:=ae<|kZ.ak vq (fun hk=>by have h9:=fp.r8 _ hk;have:=pJ.out;have:=lj.out;have:=dt.out;have:=eB.out;omega);have fY:=ae<|kZ.ak Bt (fun hk=>by have h9:=fp.r8 _ hk;have:=pJ.out;have:=lj.out;have:=dt.out;have:=eB.out;omega);have Bf:=ae<|kZ.ak rF (fun hk=>by have h9:=fp.r8 _ hk;have:=pJ.out;have:=lj.out;have:=dt.out;have:=eB.out;omega);have ek:=ae<|(Bv.mono fun _ hb=>hb.elim).trans kZ;change Code.wp _ _ _ _ (W4.setCell ⟨lg,r,none⟩ (.slice An nn cn));clear k1 k2 Dm kZ bf fp vq Bt rF Bv uV kL;generalize W4.setCell ⟨lg,r,none⟩ (.slice An nn cn)=W5 at *;generalize ba qv r (.slice An nn cn)=Ga at *;generalize A0:ba S r ((S r).erase b)=S5 at *;have l9:=aq (S5=cu S b) (A0▸funext fun i=>(by rw[uX.out];exact DN HI b i));clear A0;have KL:=ae (show(S5 r).length≤10000 by
  have h1:=jY.out;have h2:((S r).erase b).length≤(S r).length:=List.length_erase_le;rw[l9.out]
  show((S r).erase b).length≤10000
  omega)
 have y0:aF W5 ab 0 1:=Bf.ag rfl;go_upto_region 9 with fail;have k1:aM W5.drew j.pb 3 (bp lg l.length lc):=lr.c3.trans bT;have k2:aM W5.drew lg r (Ga r):=by
  exact nM
 have k3:aF W5.drew ab 1 b:=Bf.ag rfl;refine pG (fun w':World=>aM w' j.pb 3 (bp lg l.length lc)∧aM w' lg r (Ga r)∧aF w' ab 1 b) 15 fun aC=>?_
 refine bE [0,1,2,3,4,5,6,7,8,9,10,11,12,13] ?_;refine cX 14 fun Kc hK=>?_
 go_simp;refine(fQ b W5.drew ((lr.q r HR).ar ((af.ai au W5).drew) fun _ _=>id) KL).mono ?_;rintro e W6 ⟨vn,rfl,lG,jc⟩;obtain⟨An,nn,cn,rfl⟩:∃A n c,vn=Value.slice A n c:=by obtain⟨A,c,e,_⟩:=lG.shape;exact⟨A,_,c,e⟩
 have uV:=ae lG;have kL:=ae<|(af.ai au W5).drew.trans jc;have k1:=jc.cell aC.1 id;have k2:=jc.cell aC.2.1 id;have k3:=jc.cell aC.2.2 id;clear lG jc;refine Ai hK fun aC=>?_
 clear hK;refine dE ?_;have Dm:W6.frozen? ⟨lg,r,none⟩=false:=by
  exact nH
 clear aC k3;go_upto_region 10 with fail;have kZ:af (aJ j.lv) W5 (W6.setCell ⟨lg,r,none⟩ (.slice An nn cn)):=(((af.ai (aJ j.lv) W5).cE kL).setCell (p:=⟨lg,r,none⟩) (.inl aR) _);have bf:aA 3 W6 j.B (.slice An nn cn) (b :: S5 r):=by
  have h1:=uV.low lr.bs;exact h1
 have Te:=ae<|(lr.keep kL).tj HR (g:=lg) aR bf;have vk:=ae<|kZ.ak rD (fun hk=>by have h9:=lr.r8 _ hk;have:=pJ.out;have:=lj.out;have:=dt.out;have:=eB.out;omega);have w8:=ae<|kZ.ak fY (fun hk=>by have h9:=lr.r8 _ hk;have:=pJ.out;have:=lj.out;have:=dt.out;have:=eB.out;omega);have pz:=ae<|ek.trans kZ;change Code.wp _ _ _ _ (W6.setCell ⟨lg,r,none⟩ (.slice An nn cn));clear k1 k2 Dm kZ bf lr rD fY ek uV kL;generalize W6.setCell ⟨lg,r,none⟩ (.slice An nn cn)=W7 at *;generalize ba Ga r (.slice An nn cn)=XL at *;go_wp2_with (first|(refine iy (bW 0 false true) vk Tryz.underlying136 ?_)|(refine iP (bW 0 false true) w8 (kf _ _ _) ?_))
 (try simp only[Exit.inBlock,Exit.then])
 refine bodyPost_ret (results_cell_row rfl _ _ rb _ (bW 0 false true) (0,0) _ rfl (w8.aw _) Tryz.underlying136 rfl aS) rfl ?_;have gM:af (az rb) W7 (W7.setRow rb (bW 0 false true)):=(af.ai (az rb) W7).aw (.inl rfl) _;exact⟨rfl,⟨_,(Te.congr fun i _=>by rw[←uX.out,l9.out];rfl).jZ w8 eU gM⟩,pz.aw (.inr ff) _⟩
end
theorem PY {L:List Int}(h:L≠[]):L.getD 0 0=Go.Proofs.YtpcfhbeakecihaaGreat.hd L:=by
 cases L with
 |nil=>exact absurd rfl h
 |cons a L=>rfl
section
variable {j:Az}{l:List aH}{O:Nat→Nat→Int}{S:Nat→List Int}{w:World}{blocks:Int}{b:Int}
theorem Aa (h:Df j l O S w)(hI:cz l O j.t S)(hP:cT blocks l)(tZ:0≤b∧b<64)(hb:b∉S (aZ l b))(UO:0<bK l O b j.t)(sj:(S (aZ l b)).length≤64)(ue:((S (aZ l b)).length:Int)<bK l O b j.t):
 Calls Tryz.prog 106 #[aO j.pb,.agg #[ah 1,ah b]] w (zc j l O (cF l O j.t S b).1 (cF l O j.t S b).2.1 (cF l O j.t S b).2.2 false w):=by
 have hr:=(vL UO).1;have rf:=aq (decide (b∈S (aZ l b))=false) (decide_eq_false hb);have xk:=ae sj;have NZ:=aq (∀i,b∉S i) (fun i h2=>hb (by rw[←(hI.at_ h2).1];exact h2));have hpv:(bK l O b j.t==0)=false:=by simp;omega
 have XV:¬bK l O b j.t=0:=aj;have rh:=ae (show cF l O j.t S b=(bm (cu S b) (aZ l b) b,0,false) by unfold cF;rw[if_neg hb,if_pos ue]);clear hb sj;obtain⟨qv,hA⟩:=h;have E6:=hP.2.2;have qx:=ae tZ;have me:=ae hP;have HI:=ae hI;have e1:fl l b=aZ l b:=by unfold fl;rw[if_pos hr]
 have dZ:=ae<|Box.fresh w 139 #[ah 1,ah b];have aK:af au w (w.alloc (.cells #[ah 1,ah b] 139)):=(af.ai au w).alloc _;have bc:=ae aK;have Fg:=ae<|hA.keep aK;have pJ:=ae hA.bs;obtain⟨r,yP⟩:∃r,r=aZ l b:=⟨_,rfl⟩;have uX:=ae yP;have HR:=ae (show r<l.length by rw[yP];exact hr);have UL:(r:Int)<l.length:=aj;have UM:(0:Int)≤r:=aj;clear hA aK hP hI hr yP
 go_enter Tryz.func106,Tryz.ntmps106
 go_upto_region 1 with fail;change Code.wp _ _ _ _ ((w.alloc (.cells #[ah 1,ah b] 139)).alloc (.cells (bW 0 false false) 136));have hsz:(w.alloc (.cells #[ah 1,ah b] 139)).heap.size=w.heap.size+1:=World.size_alloc ..;generalize w.alloc (.cells #[ah 1,ah b] 139)=W0 at *;obtain⟨ab,fS⟩:∃ab,ab=w.heap.size:=⟨_,rfl⟩;rw[←fS]at dZ hsz ⊢;have lj:=aq (w.heap.size≤ab) (Nat.le_of_eq fS.symm);clear fS;have cy:=ae<|Box.fresh W0 136 (bW 0 false false);have aK:af au W0 (W0.alloc (.cells (bW 0 false false) 136)):=(af.ai au W0).alloc _;have iR:=ae<|aK.ak dZ id;have bu:=ae<|bc.trans aK;have dt:=aq (w.heap.size≤W0.heap.size) (bc.size);have ml:=ae<|Fg.keep aK;clear aK dZ bc Fg;generalize W0.alloc (.cells (bW 0 false false) 136)=W1 at *;rw[hsz]at cy dt;clear hsz;generalize ab+1=rb at *;have fF:=ae<|sA (b:=b) ⟨qv,ml⟩ HI me qx;have fF:Hid (Calls Tryz.prog 126 #[aO j.pb,ah b] W1 fun e w'=>e= .returned (.bool false)∧∃m,W1.drewN m=w'):=ae eX;have y0:aF W1 ab 0 1:=iR.ag rfl;have y1:aF W1 ab 1 b:=iR.ag rfl;go_upto_region 2 with(go_at_call 126;refine fF.mono ?_;rintro e Wm ⟨rfl,m,hm⟩;have pA:=aq (af au W1 Wm) (hm▸(af.ai au W1).drewN m);clear hm);change Code.wp _ _ _ _ (Wm.alloc (.cells (bW 0 false false) 136));have aK:af au W1 (Wm.alloc (.cells (bW 0 false false) 136)):=pA.alloc _;have Fq:=ae<|Box.fresh Wm 136 (bW 0 false false);have fX:=ae<|aK.ak cy id;have gj:=ae<|aK.ak iR id;have bI:=ae<|bu.trans aK;have kc:=ae<|ml.keep aK;have eB:=aq (w.heap.size≤Wm.heap.size∧rb<Wm.heap.size) (⟨Nat.le_trans bu.size pA.size,Nat.lt_of_lt_of_le cy.lt pA.size⟩);clear aK fF cy iR bu ml y0 y1 pA;generalize Wm.alloc (.cells (bW 0 false false) 136)=W2 at *;generalize Wm.heap.size=eb at *;have uY:=ae<|fun q=>gR b (W2.drewN q) (kc.bL.ar ((af.ai au W2).drewN q) fun _ _=>id) me qx;rw[e1,←uX.out]at uY;clear e1;have x0:aM W2 j.pb 0 (.slice j.A l.length j.c):=kc.c0;have y1:aF W2 ab 1 b:=gj.ag rfl
 go_quiet ((go_at_call 125;exact sC ((uY _).mono fun _ _ ⟨he,m,hm⟩=>⟨he,m,hm.symm⟩)))
 have ks:=aq (Box (W2.drewN nq) eb 136 (bW 0 false false)) (((af.ai au W2).drewN nq).ak Fq id);have ej:=aq (Box (W2.drewN nq) rb 136 (bW 0 false false)) (((af.ai au W2).drewN nq).ak fX id);have iw:=aq (Box (W2.drewN nq) ab 139 #[ah 1,ah b]) (((af.ai au W2).drewN nq).ak gj id);have cr:=ae<|bI.drewN nq;have ga:=ae<|kc.keep ((af.ai au W2).drewN nq);clear Fq fX gj bI kc uY x0 y1;generalize W2.drewN nq=W3 at *;have y0:aF W3 ab 0 1:=iw.ag rfl;have y1:aF W3 ab 1 b:=iw.ag rfl;have Bb:Hid (∃lg lc,j.lv=bp lg l.length lc):=ae fh;obtain⟨lg,lc,yS⟩:=Bb.out;have Bb:=ae yS;clear yS;have Ds:=ae<|lS (b:=b) ⟨qv,ga⟩ me qx;generalize Bl:bK l O b j.t=pv at *;have OI:=ae Bl;clear Bl;go_upto_region 6 with(go_at_call 105;refine Ds.mono ?_;rintro e Wp ⟨rfl,m,hm⟩;have xG:=aq (af au W3 Wp) (hm▸(af.ai au W3).drewN m);clear hm);have vq:=ae<|xG.ak ks id;have Bt:=ae<|xG.ak ej id;have rF:=ae<|xG.ak iw id;have Bv:=ae<|cr.trans xG;have fp:=ae<|ga.keep xG;clear y0 y1 Ds ks ej iw cr ga xG;have y0:aF Wp ab 0 1:=rF.ag rfl;have y1:aF Wp ab 1 b:=rF.ag rfl;have z3:aM Wp eb 3 (.bool false):=vq.ag rfl;have DH:=ae<|lS (b:=b) ⟨qv,fp⟩ me qx;rw[OI.out]at DH;have x3:aM Wp j.pb 3 (bp lg l.length lc):=fp.c3.trans bT;have xq:aM Wp lg r (qv r):=by
  exact jv
 have vw:=fp.q r HR;obtain⟨A,c,eq,wU,uC⟩:=vw.shape;have s7:=vw.at;rw[eq]at xq s7;rw[←uX.out]at ue;have jY:=ae (show(S r).length≤10000 by have:=xk.out;rw[←uX.out]at this;omega);clear eq wU uC vw s7;go_upto_region 20 with(go_at_call 105;refine DH.mono ?_;rintro e Wq ⟨rfl,m,hm⟩;have yW:=aq (af au Wp Wq) (hm▸(af.ai au Wp).drewN m);clear hm);have HEq:=ae<|yW.ak vq id;have Xh:=ae<|yW.ak Bt id;have XG:=ae<|yW.ak rF id;have Xn:=aq (af (aJ j.lv) w Wq) ((Bv.trans yW).mono fun _ hb=>hb.elim);have qX:=ae<|fp.keep yW;clear x3 xq y0 y1 z3 DH vq Bt rF Bv fp yW;have k1:aM Wq.drew j.pb 3 (bp lg l.length lc):=qX.c3.trans bT;have k2:aM Wq.drew lg r (qv r):=by
  obtain⟨g,c,e,h1,_⟩:=qX.cq HR;exact dP
 have k3:aF Wq.drew ab 1 b:=XG.ag rfl;refine pG (fun w':World=>aM w' j.pb 3 (bp lg l.length lc)∧aM w' lg r (qv r)∧aF w' ab 1 b) 15 fun aC=>?_
 refine bE [0,1,2,3,4,5,6,7,8,9,10,11,12,13] ?_;refine cX 14 fun Kc hK=>?_
 go_simp;refine(fQ b Wq.drew ((qX.q r HR).ar ((af.ai au Wq).drew) fun _ _=>id) jY).mono ?_;rintro e W4 ⟨vn,rfl,lG,jc⟩;obtain⟨An,nn,cn,rfl⟩:∃A n c,vn=Value.slice A n c:=by obtain⟨A,c,e,_⟩:=lG.shape;exact⟨A,_,c,e⟩
 have uV:=ae lG;have kL:=ae<|(af.ai au Wq).drew.trans jc;have k1:=jc.cell aC.1 id;have k2:=jc.cell aC.2.1 id;have k3:=jc.cell aC.2.2 id;clear lG jc;refine Ai hK fun aC=>?_
 clear hK;refine dE ?_;have Dm:W4.frozen? ⟨lg,r,none⟩=false:=by
  obtain⟨cs,hb⟩:=(qX.keep kL).row.ak (k:=lg) aR;exact hb.free r
 clear aC k3;go_upto_region 21 with fail;have kZ:af (aJ j.lv) Wq (W4.setCell ⟨lg,r,none⟩ (.slice An nn cn)):=(((af.ai (aJ j.lv) Wq).cE kL).setCell (p:=⟨lg,r,none⟩) (.inl aR) _);have bf:aA 3 W4 j.B (.slice An nn cn) (b :: S r):=by
  have h1:=uV.low qX.bs;exact h1
 have lr:=ae<|(qX.keep kL).tj HR (g:=lg) aR bf;have rD:=ae<|kZ.ak HEq (fun hk=>by have h9:=qX.r8 _ hk;have:=pJ.out;have:=lj.out;have:=dt.out;have:=eB.out;omega);have fY:=ae<|kZ.ak Xh (fun hk=>by have h9:=qX.r8 _ hk;have:=pJ.out;have:=lj.out;have:=dt.out;have:=eB.out;omega);have ek:=ae<|Xn.trans kZ;change Code.wp _ _ _ _ (W4.setCell ⟨lg,r,none⟩ (.slice An nn cn));clear k1 k2 Dm kZ bf qX HEq Xh Xn uV kL;generalize W4.setCell ⟨lg,r,none⟩ (.slice An nn cn)=W5 at *;generalize ba qv r (.slice An nn cn)=Ga at *;go_wp2_with (first|(refine iy (bW 0 false false) rD Tryz.underlying136 ?_)|(refine iP (bW 0 false false) fY (kf _ _ _) ?_))
 (try simp only[Exit.inBlock,Exit.then])
 refine bodyPost_ret (results_cell_row rfl _ _ rb _ (bW 0 false false) (0,0) _ rfl (fY.aw _) Tryz.underlying136 rfl aS) rfl ?_;have gM:af (az rb) W5 (W5.setRow rb (bW 0 false false)):=(af.ai (az rb) W5).aw (.inl rfl) _;refine⟨by rw[rh.out],⟨_,(lr.congr fun i _=>?_).jZ fY eU gM⟩,ek.aw (.inr ff) _⟩;have h2:cu S b=S:=funext fun k=>List.erase_of_not_mem (NZ k)
 rw[rh.out]
 show _=bm (cu S b) (aZ l b) b i
 rw[h2,←uX.out];rfl
theorem oJ{P:Prop}(h:P:=by
 have k1:aM Wx.drew j.pb 3 (bp lg l.length lc):=vm.c3.trans bT;have k2:aM Wx.drew lg r (qv r):=by
  obtain⟨g,c,e,h1,_⟩:=vm.cq HR;exact dP
 have k3:aF Wx.drew eb 1 v:=HEx.ag rfl;refine pG (fun w':World=>aM w' j.pb 3 (bp lg l.length lc)∧aM w' lg r (qv r)∧aF w' eb 1 v) 15 fun aC=>?_
 refine bE [0,1,2,3,4,5,6,7,8,9,10,11,12,13] ?_;refine cX 14 fun Kc hK=>?_
 go_simp;refine(cB v Wx.drew ((vm.q r HR).ar ((af.ai au Wx).drew) fun _ _=>id) jY).mono ?_;rintro e WV ⟨vn,rfl,lG,jc⟩;obtain⟨An,nn,cn,rfl⟩:∃A n c,vn=Value.slice A n c:=by obtain⟨A,c,e,_⟩:=lG.shape;exact⟨A,_,c,e⟩
 have uV:=ae lG;have kL:=ae<|(af.ai au Wx).drew.trans jc;have k1:=jc.cell aC.1 id;have k2:=jc.cell aC.2.1 id;have k3:=jc.cell aC.2.2 id;clear lG jc;refine Ai hK fun aC=>?_
 clear hK;refine dE ?_;have Dm:WV.frozen? ⟨lg,r,none⟩=false:=by
  obtain⟨cs,hb⟩:=(vm.keep kL).row.ak (k:=lg) aR;exact hb.free r
 clear aC k3;go_upto_region 20 with fail;have kZ:af (aJ j.lv) Wx (WV.setCell ⟨lg,r,none⟩ (.slice An nn cn)):=(((af.ai (aJ j.lv) Wx).cE kL).setCell (p:=⟨lg,r,none⟩) (.inl aR) _);have bf:aA 3 WV j.B (.slice An nn cn) ((S r).erase v):=by
  have h1:=uV.low vm.bs;rw[erase_filter (HI.nodup r)]at h1;exact h1
 have zh:=ae<|(vm.keep kL).tj HR (g:=lg) aR bf;have HEy:=ae<|kZ.ak HEx (fun hk=>by have h9:=vm.r8 _ hk;have:=pJ.out;have:=lj.out;have:=dt.out;have:=eB.out;omega);have HRy:=ae<|kZ.ak HRx (fun hk=>by have h9:=vm.r8 _ hk;have:=pJ.out;have:=lj.out;have:=dt.out;have:=eB.out;omega);have HAy:=ae<|kZ.ak HAx (fun hk=>by have h9:=vm.r8 _ hk;have:=pJ.out;have:=lj.out;have:=dt.out;have:=eB.out;omega);have HOy:=ae<|Nc.trans kZ;change Code.wp _ _ _ _ (WV.setCell ⟨lg,r,none⟩ (.slice An nn cn));clear k1 k2 Dm kZ bf vm HEx HRx HAx Nc uV kL;generalize WV.setCell ⟨lg,r,none⟩ (.slice An nn cn)=Wy at *;generalize ba qv r (.slice An nn cn)=Ga at *;generalize A0:ba S r ((S r).erase v)=S5 at *;have l9:=aq (S5=cu S v) (A0▸funext fun i=>by
  unfold ba cu
  by_cases e:i=r
  ·rw[if_pos e,e]
  ·rw[if_neg e,List.erase_of_not_mem fun h2=>e ((HI.at_ h2).1.trans (HI.at_ HVM.out).1.symm)])
 clear A0;have KL:=ae (show(S5 r).length≤10000 by
  have h1:=jY.out;have h2:((S r).erase v).length≤(S r).length:=List.length_erase_le;rw[l9.out]
  show((S r).erase v).length≤10000
  omega)
 have k1:aM Wy.drew j.pb 3 (bp lg l.length lc):=zh.c3.trans bT;have k2:aM Wy.drew lg r (Ga r):=by
  obtain⟨g,c,e,h1,_⟩:=zh.cq HR;exact dP
 have k3:aF Wy.drew ab 1 b:=HAy.ag rfl;refine pG (fun w':World=>aM w' j.pb 3 (bp lg l.length lc)∧aM w' lg r (Ga r)∧aF w' ab 1 b) 15 fun aC=>?_
 refine bE [0,1,2,3,4,5,6,7,8,9,10,11,12,13] ?_;refine cX 14 fun Kc hK=>?_
 go_simp;refine(fQ b Wy.drew ((zh.q r HR).ar ((af.ai au Wy).drew) fun _ _=>id) KL).mono ?_;rintro e WU ⟨vn,rfl,lG,jc⟩;obtain⟨An,nn,cn,rfl⟩:∃A n c,vn=Value.slice A n c:=by obtain⟨A,c,e,_⟩:=lG.shape;exact⟨A,_,c,e⟩
 have uV:=ae lG;have kL:=ae<|(af.ai au Wy).drew.trans jc;have k1:=jc.cell aC.1 id;have k2:=jc.cell aC.2.1 id;have k3:=jc.cell aC.2.2 id;clear lG jc;refine Ai hK fun aC=>?_
 clear hK;refine dE ?_;have Dm:WU.frozen? ⟨lg,r,none⟩=false:=by
  obtain⟨cs,hb⟩:=(zh.keep kL).row.ak (k:=lg) aR;exact hb.free r
 clear aC k3;go_upto_region 21 with fail;have kZ:af (aJ j.lv) Wy (WU.setCell ⟨lg,r,none⟩ (.slice An nn cn)):=(((af.ai (aJ j.lv) Wy).cE kL).setCell (p:=⟨lg,r,none⟩) (.inl aR) _);have bf:aA 3 WU j.B (.slice An nn cn) (b :: S5 r):=by
  have h1:=uV.low zh.bs;exact h1
 have abg:=ae<|(zh.keep kL).tj HR (g:=lg) aR bf;have HEz:=ae<|kZ.ak HEy (fun hk=>by have h9:=zh.r8 _ hk;have:=pJ.out;have:=lj.out;have:=dt.out;have:=eB.out;omega);have HRz:=ae<|kZ.ak HRy (fun hk=>by have h9:=zh.r8 _ hk;have:=pJ.out;have:=lj.out;have:=dt.out;have:=eB.out;omega);have HOz:=ae<|HOy.trans kZ;change Code.wp _ _ _ _ (WU.setCell ⟨lg,r,none⟩ (.slice An nn cn));clear k1 k2 Dm kZ bf zh HEy HRy HOy uV kL;generalize WU.setCell ⟨lg,r,none⟩ (.slice An nn cn)=Wz at *;generalize ba Ga r (.slice An nn cn)=XL at *;go_wp2_with (first|(refine iy (bW v true false) HEz Tryz.underlying136 ?_)|(refine iP (bW v true false) HRz (kf _ _ _) ?_))
 (try simp only[Exit.inBlock,Exit.then])
 refine bodyPost_ret (results_cell_row rfl _ _ rb _ (bW v true false) (0,0) _ rfl (HRz.aw _) Tryz.underlying136 rfl aS) rfl ?_;have gM:af (az rb) Wz (Wz.setRow rb (bW v true false)):=(af.ai (az rb) Wz).aw (.inl rfl) _;refine⟨by rw[rh.out],⟨_,(abg.congr fun i _=>?_).jZ HRz eU gM⟩,HOz.aw (.inr ff) _⟩;have h2:cu (cu S v) b=cu S v:=funext fun k=>List.erase_of_not_mem fun h3=>NZ k (List.mem_of_mem_erase h3)
 rw[rh.out]
 show _=bm (cu (cu S v) b) r b i
 rw[h2,l9.out];rfl):P:=h
theorem gJ{P:Prop}(h:P:=by have:=pJ.out;have:=eB.out;omega):P:=h
theorem Ab (h:Df j l O S w)(hI:cz l O j.t S)(hP:cT blocks l)(tZ:0≤b∧b<64)(hb:b∉S (aZ l b))(UO:0<bK l O b j.t)(sj:(S (aZ l b)).length≤64)(BJ:bK l O b j.t≤((S (aZ l b)).length:Int)):
 Calls Tryz.prog 106 #[aO j.pb,.agg #[ah 1,ah b]] w (zc j l O (cF l O j.t S b).1 (cF l O j.t S b).2.1 (cF l O j.t S b).2.2 false w):=by
 have hr:=(vL UO).1;have rf:=aq (decide (b∈S (aZ l b))=false) (decide_eq_false hb);have xk:=ae sj;have NZ:=aq (∀i,b∉S i) (fun i h2=>hb (by rw[←(hI.at_ h2).1];exact h2));have hpv:(bK l O b j.t==0)=false:=by simp;omega
 have XV:¬bK l O b j.t=0:=aj;have hne:S (aZ l b)≠[]:=fun e=>by rw[e]at BJ;simp at BJ;omega
 have l6:=ae hne;have GR:=ae (show cF l O j.t S b=(bm (cu (cu S (fq l S (aZ l b) b)) b) (aZ l b) b,fq l S (aZ l b) b,true) by unfold cF;rw[if_neg hb,if_neg aj]);have S9:=ae<|ql (l:=l) (b:=b) hne;have Xv:=ae (show fq l S (aZ l b) b=if(l.getD (aZ l b) default).loop=true then Go.Proofs.YtpcfhbeakecihaaGreat.hd (S (aZ l b))else gU (S (aZ l b)) by
  unfold fq BG;rw[decide_eq_true hr,Bool.true_and])
 clear hne;clear hb sj;obtain⟨qv,hA⟩:=h;have E6:=hP.2.2;have qx:=ae tZ;have me:=ae hP;have HI:=ae hI;have e1:fl l b=aZ l b:=by unfold fl;rw[if_pos hr]
 have dZ:=ae<|Box.fresh w 139 #[ah 1,ah b];have aK:af au w (w.alloc (.cells #[ah 1,ah b] 139)):=(af.ai au w).alloc _;have bc:=ae aK;have Fg:=ae<|hA.keep aK;have pJ:=ae hA.bs;obtain⟨r,yP⟩:∃r,r=aZ l b:=⟨_,rfl⟩;have uX:=ae yP;have HR:=ae (show r<l.length by rw[yP];exact hr);have UL:(r:Int)<l.length:=aj;have UM:(0:Int)≤r:=aj;clear hA aK hP hI hr yP
 go_enter Tryz.func106,Tryz.ntmps106
 go_upto_region 1 with fail;change Code.wp _ _ _ _ ((w.alloc (.cells #[ah 1,ah b] 139)).alloc (.cells (bW 0 false false) 136));have hsz:(w.alloc (.cells #[ah 1,ah b] 139)).heap.size=w.heap.size+1:=World.size_alloc ..;generalize w.alloc (.cells #[ah 1,ah b] 139)=W0 at *;obtain⟨ab,fS⟩:∃ab,ab=w.heap.size:=⟨_,rfl⟩;rw[←fS]at dZ hsz ⊢;have lj:=aq (w.heap.size≤ab) (Nat.le_of_eq fS.symm);clear fS;have cy:=ae<|Box.fresh W0 136 (bW 0 false false);have aK:af au W0 (W0.alloc (.cells (bW 0 false false) 136)):=(af.ai au W0).alloc _;have iR:=ae<|aK.ak dZ id;have bu:=ae<|bc.trans aK;have dt:=aq (w.heap.size≤W0.heap.size) (bc.size);have ml:=ae<|Fg.keep aK;clear aK dZ bc Fg;generalize W0.alloc (.cells (bW 0 false false) 136)=W1 at *;rw[hsz]at cy dt;clear hsz;generalize ab+1=rb at *;have fF:=ae<|sA (b:=b) ⟨qv,ml⟩ HI me qx;have fF:Hid (Calls Tryz.prog 126 #[aO j.pb,ah b] W1 fun e w'=>e= .returned (.bool false)∧∃m,W1.drewN m=w'):=ae eX;have y0:aF W1 ab 0 1:=iR.ag rfl;have y1:aF W1 ab 1 b:=iR.ag rfl;go_upto_region 2 with(go_at_call 126;refine fF.mono ?_;rintro e Wm ⟨rfl,m,hm⟩;have pA:=aq (af au W1 Wm) (hm▸(af.ai au W1).drewN m);clear hm);change Code.wp _ _ _ _ (Wm.alloc (.cells (bW 0 false false) 136));have aK:af au W1 (Wm.alloc (.cells (bW 0 false false) 136)):=pA.alloc _;have Fq:=ae<|Box.fresh Wm 136 (bW 0 false false);have fX:=ae<|aK.ak cy id;have gj:=ae<|aK.ak iR id;have bI:=ae<|bu.trans aK;have kc:=ae<|ml.keep aK;have eB:=aq (w.heap.size≤Wm.heap.size∧rb<Wm.heap.size) (⟨Nat.le_trans bu.size pA.size,Nat.lt_of_lt_of_le cy.lt pA.size⟩);clear aK fF cy iR bu ml y0 y1 pA;generalize Wm.alloc (.cells (bW 0 false false) 136)=W2 at *;generalize Wm.heap.size=eb at *;have uY:=ae<|fun q=>gR b (W2.drewN q) (kc.bL.ar ((af.ai au W2).drewN q) fun _ _=>id) me qx;rw[e1,←uX.out]at uY;clear e1;have x0:aM W2 j.pb 0 (.slice j.A l.length j.c):=kc.c0;have y1:aF W2 ab 1 b:=gj.ag rfl
 go_quiet ((go_at_call 125;exact sC ((uY _).mono fun _ _ ⟨he,m,hm⟩=>⟨he,m,hm.symm⟩)))
 have ks:=aq (Box (W2.drewN nq) eb 136 (bW 0 false false)) (((af.ai au W2).drewN nq).ak Fq id);have ej:=aq (Box (W2.drewN nq) rb 136 (bW 0 false false)) (((af.ai au W2).drewN nq).ak fX id);have iw:=aq (Box (W2.drewN nq) ab 139 #[ah 1,ah b]) (((af.ai au W2).drewN nq).ak gj id);have cr:=ae<|bI.drewN nq;have ga:=ae<|kc.keep ((af.ai au W2).drewN nq);clear Fq fX gj bI kc uY x0 y1;generalize W2.drewN nq=W3 at *;have y0:aF W3 ab 0 1:=iw.ag rfl;have y1:aF W3 ab 1 b:=iw.ag rfl;have Bb:Hid (∃lg lc,j.lv=bp lg l.length lc):=ae fh;obtain⟨lg,lc,yS⟩:=Bb.out;have Bb:=ae yS;clear yS;have Ds:=ae<|lS (b:=b) ⟨qv,ga⟩ me qx;generalize Bl:bK l O b j.t=pv at *;have OI:=ae Bl;clear Bl;go_upto_region 6 with(go_at_call 105;refine Ds.mono ?_;rintro e Wp ⟨rfl,m,hm⟩;have xG:=aq (af au W3 Wp) (hm▸(af.ai au W3).drewN m);clear hm);have vq:=ae<|xG.ak ks id;have Bt:=ae<|xG.ak ej id;have rF:=ae<|xG.ak iw id;have Bv:=ae<|cr.trans xG;have fp:=ae<|ga.keep xG;clear y0 y1 Ds ks ej iw cr ga xG;have y0:aF Wp ab 0 1:=rF.ag rfl;have y1:aF Wp ab 1 b:=rF.ag rfl;have z3:aM Wp eb 3 (.bool false):=vq.ag rfl;have DH:=ae<|lS (b:=b) ⟨qv,fp⟩ me qx;rw[OI.out]at DH;have x3:aM Wp j.pb 3 (bp lg l.length lc):=fp.c3.trans bT;have xq:aM Wp lg r (qv r):=by
  exact jv
 have vw:=fp.q r HR;obtain⟨A,c,eq,wU,uC⟩:=vw.shape;have s7:=vw.at;rw[eq]at xq s7;rw[←uX.out]at BJ l6 GR S9 Xv;have jY:=ae (show(S r).length≤10000 by have:=xk.out;rw[←uX.out]at this;omega);obtain⟨M,hM⟩:∃M,(S r).length=M+1:=⟨(S r).length - 1,by have:=List.length_pos_iff.2 l6.out;omega⟩;obtain⟨g,o,rfl,pE⟩:=s7.ag (i:=M) aj;obtain⟨g',o',e',hch⟩:=s7.ag (i:=0) aj;injection e' with e';injection e' with e1 e2;subst e1 e2;rw[sS hM]at pE;rw[PY l6.out,Nat.add_zero]at hch;rw[hM]at xq BJ;have acK:M≤64:=by have:=xk.out;rw[←uX.out]at this;omega
 have ab5:pv≤(M:Int)+1:=aj;have hwM:IntKind.i64.wrap (M:Int)=M:=by rw[IntKind.wrap_i64];omega
 have hM1:(M:Int)<(M:Int)+1:=aj;have hM0:(0:Int)<(M:Int)+1:=aj;obtain⟨hg,hgo,ehA,_,_,_,_,hlp⟩:=fp.bL.at_ r HR;have x0:aM Wp j.pb 0 (.slice (some ⟨hg,hgo,none⟩) l.length j.c):=fp.c0.trans (by rw[ehA]);have HM:=ae hM;have HQR:=ae eq;have HHA:=ae ehA;clear eq wU uC vw s7 ehA hM;go_upto_region 15 with(go_at_call 105;refine DH.mono ?_;rintro e Wq ⟨rfl,m,hm⟩;have yW:=aq (af au Wp Wq) (hm▸(af.ai au Wp).drewN m);clear hm);have HEq:=ae<|yW.ak vq id;have Xh:=ae<|yW.ak Bt id;have XG:=ae<|yW.ak rF id;have Xn:=aq (af (aJ j.lv) w Wq) ((Bv.trans yW).mono fun _ hb=>hb.elim);have qX:=ae<|fp.keep yW;have x3q:=yW.cell x3 id;have xqq:=yW.cell xq id;have X7:=yW.cell pE id;have X9:=yW.cell hch id;have x0q:=yW.cell x0 id;have X4:=yW.cell hlp id;clear x3 xq y0 y1 z3 DH vq Bt rF Bv fp yW pE hch x0 hlp;generalize X3:gU (S r)=vl at *;generalize hhd:Go.Proofs.YtpcfhbeakecihaaGreat.hd (S r)=vh at *;have a1:aF Wq eb 1 0:=HEq.ag rfl;have f1:Wq.frozen? ⟨eb,1,none⟩=false:=HEq.free 1;have Xr:=aq ((¬az eb j.pb)∧(¬az eb lg)∧(¬az eb g)∧(¬az eb hg)) (by
  have h1:=qX.QF;have h2:=qX.r8 lg aR;have h4:=pJ.out;have h5:=eB.out;refine⟨fun e=>?_,fun e=>?_,fun e=>?_,fun e=>?_⟩
  ·have h9:j.pb=eb:=e;omega
  ·have h9:lg=eb:=e;omega
  ·have h9:g=eb:=e;obtain⟨c9,U3⟩:=(qX.q r HR).gb (k:=g) (by rw[HQR.out];exact aD.2 rfl);exact(U3.off HEq aE) h9
  ·have h9:hg=eb:=e;have:=(qX.Nw (by have:=HR.out;omega) hg hgo HHA).1;omega)
 generalize fq l S r b=v at *;go_upto_region 16 with fail;have xB:af (az eb) Wq (Wq.setCell ⟨eb,1,none⟩ (ah vl)):=(af.ai (az eb) Wq).setCell (p:=⟨eb,1,none⟩) (.inl (show az eb eb from rfl)) _;have JO:=aq (Box _ eb 136 (bW vl false false)) (HEq.store 1 (ah vl));have HRs:=ae<|xB.ak Xh (fun e=>by have h9:rb=eb:=e;have:=eB.out;omega);have VE:=ae<|xB.ak XG (XG.off HEq aE);have HOs:=ae<|Xn.setCell (p:=⟨eb,1,none⟩) (.inr eB.1) (ah vl);have OG:=ae<|qX.jZ HEq gJ xB;have GJ:=ae xB;change Code.wp _ _ _ _ (Wq.setCell ⟨eb,1,none⟩ (ah vl));clear xB HEq Xh XG Xn qX;have x0s:=GJ.out.cell x0q Xr.1;have x3s:=GJ.out.cell x3q Xr.1;have xqs:=GJ.out.cell xqq Xr.2.1;have X8:=GJ.out.cell X9 Xr.2.2.1;have Ol:=GJ.out.cell X4 Xr.2.2.2;clear x0q x3q xqq X9 X7 X4 a1 f1 GJ;generalize Wq.setCell ⟨eb,1,none⟩ (ah vl)=Ws at *
 cases UQ:(l.getD r default).loop with
 |false=>
  rw[UQ]at Ol;obtain rfl:v=vl:=by rw[Xv.out,UQ,if_neg aE]
  have rh:=ae GR;have HVM:=ae S9;clear UQ Xv X3 hhd;go_upto_region 18 with fail;clear x0s x3s xqs X8 Ol;have a2:aM Ws eb 2 (.bool false):=JO.ag rfl;have f2:Ws.frozen? ⟨eb,2,none⟩=false:=JO.free 2;go_upto_region 19 with fail;have xB:af (az eb) Ws (Ws.setCell ⟨eb,2,none⟩ (.bool true)):=(af.ai (az eb) Ws).setCell (p:=⟨eb,2,none⟩) (.inl (show az eb eb from rfl)) _;have HEx:=aq (Box _ eb 136 (bW v true false)) (JO.store 2 (.bool true));have HRx:=ae<|xB.ak HRs (fun e=>by have h9:rb=eb:=e;have:=eB.out;omega);have HAx:=ae<|xB.ak VE (VE.off JO aE);have Nc:=ae<|HOs.setCell (p:=⟨eb,2,none⟩) (.inr eB.1) (.bool true);have vm:=ae<|OG.jZ JO gJ xB;change Code.wp _ _ _ _ (Ws.setCell ⟨eb,2,none⟩ (.bool true));clear xB JO HRs VE HOs OG;clear a2 f2;generalize Ws.setCell ⟨eb,2,none⟩ (.bool true)=Wx at *;exact oJ
 |true=>
  rw[UQ]at Ol;obtain rfl:v=vh:=by rw[Xv.out,UQ,if_pos rfl]
  have rh:=ae GR;have HVM:=ae S9;clear UQ Xv X3 hhd;have a1:aF Ws eb 1 vl:=JO.ag rfl;have f1:Ws.frozen? ⟨eb,1,none⟩=false:=JO.free 1;go_upto_region 18 with fail;have xB:af (az eb) Ws (Ws.setCell ⟨eb,1,none⟩ (ah v)):=(af.ai (az eb) Ws).setCell (p:=⟨eb,1,none⟩) (.inl (show az eb eb from rfl)) _;have Kg:=aq (Box _ eb 136 (bW v false false)) (JO.store 1 (ah v));have Vm:=ae<|xB.ak HRs (fun e=>by have h9:rb=eb:=e;have:=eB.out;omega);have HAu:=ae<|xB.ak VE (VE.off JO aE);have Xm:=ae<|HOs.setCell (p:=⟨eb,1,none⟩) (.inr eB.1) (ah v);have Yq:=ae<|OG.jZ JO gJ xB;change Code.wp _ _ _ _ (Ws.setCell ⟨eb,1,none⟩ (ah v));clear xB JO HRs VE HOs OG;clear a1 f1 x0s x3s xqs X8 Ol;generalize Ws.setCell ⟨eb,1,none⟩ (ah v)=Wu at *;have a2:aM Wu eb 2 (.bool false):=Kg.ag rfl;have f2:Wu.frozen? ⟨eb,2,none⟩=false:=Kg.free 2;go_upto_region 19 with fail;have xB:af (az eb) Wu (Wu.setCell ⟨eb,2,none⟩ (.bool true)):=(af.ai (az eb) Wu).setCell (p:=⟨eb,2,none⟩) (.inl (show az eb eb from rfl)) _;have HEx:=aq (Box _ eb 136 (bW v true false)) (Kg.store 2 (.bool true));have HRx:=ae<|xB.ak Vm (fun e=>by have h9:rb=eb:=e;have:=eB.out;omega);have HAx:=ae<|xB.ak HAu (HAu.off Kg aE);have Nc:=ae<|Xm.setCell (p:=⟨eb,2,none⟩) (.inr eB.1) (.bool true);have vm:=ae<|Yq.jZ Kg gJ xB;change Code.wp _ _ _ _ (Wu.setCell ⟨eb,2,none⟩ (.bool true));clear xB Kg Vm HAu Xm Yq;clear a2 f2;generalize Wu.setCell ⟨eb,2,none⟩ (.bool true)=Wx at *;exact oJ
end
def TX (S:Nat→List Int)(n:Nat)(w:World)(v i:Value)(wr:World):Prop:=
 ∃k:Nat,k≤n∧i=ah k∧aA 3 wr w.heap.size v (b9 S k)∧af au w wr
theorem cz.len {l:List aH}{O:Nat→Nat→Int}{t:Nat}{S:Nat→List Int}(h:cz l O t S){k:Nat}(hk:k≤l.length):(b9 S k).length≤64:=by
 have h1:(b9 S k).length≤((List.range 64).map Int.ofNat).length:=mC (h.DQ k hk) fun x hx=>by
  obtain⟨r,_,h2⟩:=(qH S x k).1 hx;have:=(h.at_ h2).2.2;exact List.mem_map.2 ⟨x.toNat,List.mem_range.2 aj,by simp;omega⟩
 simpa using h1
section
variable {j:Az}{l:List aH}{O:Nat→Nat→Int}{S:Nat→List Int}{w:World}{blocks:Int}
theorem Pa (h:Df j l O S w)(hI:cz l O j.t S)(hP:cT blocks l):
 Calls Tryz.prog 48 #[aO j.pb] w fun e w'=>∃v,e= .returned v∧aA 3 w' w.heap.size v (b9 S l.length)∧af au w w':=by
 obtain⟨qv,hA⟩:=h;have E6:=hP.2.2;have HA:=ae hA;have jY:=ae<|fun k (hk:k≤l.length)=>hI.len hk;obtain⟨VA,vc,Va,_,_⟩:=hA.row.shape;rw[sB]at Va;have HEL:=ae Va;clear hA hI hP Va
 go_enter Tryz.func48,Tryz.ntmps48
 go_upto_region 3 with fail
 go_loopw [3,4] (fun v i wr=>TX S l.length w v i wr) (fun _ i _=>l.length - (intOf i).toNat)
 case atStart=>exact⟨0,fH _,rfl,aA.nil _ _ _,af.ai _ _⟩
 case round=>
  obtain⟨k,hk,rfl,bf,ho⟩:=hrel;have HL:=ae bf;have HO:=ae ho;have x3:aM wr j.pb 3 (.slice VA l.length vc):=(HA.keep ho).c3.trans (by rw[HEL.out])
  by_cases aY:k<l.length
  ·have jk:(k:Int)<l.length:=aj;have cD:=ae aY;obtain⟨g,c,e,hq,_⟩:=(HA.keep ho).cq aY;rw[HEL.out]at e;injection e with e e2;subst e;obtain⟨A,c2,eq,h1,h2⟩:=(HA.q k aY).shape;have HQ:=ae<|(HA.keep ho).q k aY;have Ke:=ae (show(b9 S k).length+(S k).length≤1000000 by
    have h1:=jY.out (k+1) aj;rw[fD,List.length_append]at h1;omega)
   clear bf ho aY hk eq h1 h2;go_wp2_with (at_builtin;refine iN _ rfl (.tmp 14) (.tmp 21) 47 3 rfl gp Tryz.underlying47 w.heap.size u3 (b9 S k) rfl HL j.B (qv k) (S k) rfl HQ Ke HO.size ?_;intro v2 W2 h3 h4;have uW:=ae h3;have bu:=ae<|HO.aG h4 fun q hq=>.inr (HL.lt q hq).1;clear h3 h4)
   go_roundw
   case rel=>exact⟨k+1,cD,by push_cast;rfl,by rw[fD];exact uW,bu⟩
   case measure=>simp[intOf];have:=cD.out;omega
  ·obtain rfl:k=l.length:=aj;clear aY hk bf ho;go_wp2;go_ret;exact⟨_,rfl,HL,HO⟩
end
def Gx (A:Option Addr)(n c ob:Nat)(t1:Int)(v:Value):Array Value:=#[.slice A n c,bp ob (n*4) (n*4),ah t1,v]
def TW (A:Option Addr)(n c ob pb:Nat)(t1:Int)(w W:World)(i:Value)(wr:World):Prop:=
 ∃(k:Nat) (v:Value),k≤n∧i=ah k∧Box wr pb 143 (Gx A n c ob t1 v)∧Row 47 wr v (List.replicate k aT)∧(∀g,aJ v g→W.heap.size≤g)∧af (az pb) W wr
def yL (A:Option Addr)(c:Nat)(l:List aH)(q:Nat→Int)(t:Nat)(w:World)(e:Ending)(w':World):Prop:=
 ∃j:Az,e= .returned (aO j.pb)∧Df j l (fJ l q) (fun _=>[]) w'∧j.A=A∧j.t=t∧j.B=w'.heap.size∧w.heap.size≤j.pb∧w.heap.size≤j.ob∧(∀k,aJ j.lv k→w.heap.size≤k)∧af au w w'
section
theorem O7 {A:Option Addr}{n c:Nat}{l:List aH}{q:Nat→Int}{blocks:Int}{t:Nat}(w:World)(bL:aX w A n c l)(hP:cT blocks l)(hq:∀t,t<3→0≤q t∧q t≤16)(ht:t<3):
 Calls Tryz.prog 69 #[.slice A n c,.agg (eM q),ah ((t+1:Nat):Int)] w (yL A c l q t w):=by
 obtain rfl:=bL.len;have E6:=hP.2.2;have HP:=ae hP;have HQ:=ae hq;have rC:=ae bL;have HT:=ae ht;obtain⟨t1,Ju⟩:∃t1:Int,t1=((t+1:Nat):Int):=⟨_,rfl⟩;rw[←Ju];have Vi:=ae Ju;have vf:=ae<|(af.ai au w).alloc (.cells (eM q) 22);have XF:=ae<|Box.fresh w 22 (eM q);clear hP hq bL ht Ju
 go_enter Tryz.func69,Tryz.ntmps69
 go_upto_region 1 with fail;change Code.wp _ _ _ _ (w.alloc (.cells (eM q) 22));have HPA:=ae<|Eb (w.alloc (.cells (eM q) 22)) (rC.ar vf fun _ _=>id) HP HQ;generalize w.alloc (.cells (eM q) 22)=W0 at *;generalize w.heap.size=cb at *;go_upto_region 3 with(first|(refine iy (eM q) XF Tryz.underlying22 ?_)|(go_at_call 102;refine HPA.mono ?_;rintro e W1 ⟨ob,rfl,hb,QN,ho⟩;have b8:=ae hb;have Di:=ae QN;have bc:=ae ho;clear hb QN ho));change Code.wp _ _ _ _ (W1.alloc (.cells (Gx A l.length c ob t1 aT) 143));have bq:af au W1 (W1.alloc (.cells (Gx A l.length c ob t1 aT) 143)):=(af.ai au W1).alloc _;have HB:=ae<|Box.fresh W1 143 (Gx A l.length c ob t1 aT);have NU:=ae<|bq.ak b8 id;have HO:=ae<|(vf.trans bc).trans bq;have HH:=ae<|rC.ar HO fun _ _=>id;have HZ:=aq (w.heap.size≤W1.heap.size∧w.heap.size≤ob∧ob<W1.heap.size) (⟨(vf.trans bc).size,Nat.le_trans vf.size Di,b8.lt⟩);clear b8 vf bc Di XF HPA bq;generalize W1.alloc (.cells (Gx A l.length c ob t1 aT) 143)=W2 at *;generalize W1.heap.size=pb at *;have JC:=aq (w.heap.size≤W2.heap.size) (HO.size)
 go_loopw [8] (fun iv wr=>TW A l.length c ob pb t1 w W2 iv wr) (fun iv _=>l.length - (intOf iv).toNat)
 case atStart=>exact⟨0,_,fH _,rfl,HB,Row.lJ _ _,fun g hg=>(bo hg).elim,af.ai _ _⟩
 case round=>
  clear HB;obtain⟨k,v,hk,rfl,hb,hr,hf,ho⟩:=hrel;have HB:=ae hb;have l5:=ae ho;have HR:=ae hr;have HF:=ae hf;have x3:aM wr pb 3 v:=hb.ag rfl;have f3:wr.frozen? ⟨pb,3,none⟩=false:=hb.free 3;clear hb hr hf ho
  by_cases aY:k<l.length
  ·have jk:(k:Int)<l.length:=aj;have cD:=ae aY;have UT:k<8:=aj;clear aY hk;go_wp2_with (at_builtin;refine bA _ rfl (.tmp 26) (.tmp 27) 141 47 rfl K7 rfl Tryz.underlying141 v (List.replicate k aT) rfl (HR.ar ((af.ai au wr).alloc _) fun _ _=>id) (some ⟨wr.heap.size,0,none⟩) 1 1 [aT] rfl rfl (kg wr _ _) aU (by simp[maxLen];omega) cM ?_;intro v2 w2 kJ bq Jx _;obtain⟨A2,c2,e2,_,_⟩:=kJ.shape;rw[show(List.replicate k (Value.slice none 0 0) ++ [Value.slice none 0 0]).length=k+1 by simp]at e2;subst e2;have dG:=ae<|bq.ak (((af.ai au wr).alloc (.cells #[aT] 47)).ak HB id) (fun hk=>by obtain⟨cs,h9⟩:=HR.ak hk;exact(h9.off HB aE) rfl);have fX:=ae kJ;have bu:=ae<|(l5.alloc (.cells #[aT] 47)).aG bq fun g hg=>.inr (HF g hg);have lE:=aq (∀g,aJ (.slice A2 (k+1) c2) g→W2.heap.size≤g) (fun g hg=>(Jx g hg).elim (HF g) fun h=>by have:=l5.size;rw[World.size_alloc]at h;omega);have z3:=dG.ag (i:=3) rfl;have zf:=dG.free 3;clear kJ bq Jx)
   go_roundw
   case rel=>
    have gM:af (az pb) w2 (w2.setCell ⟨pb,3,none⟩ (.slice A2 (k+1) c2)):=(af.ai (az pb) w2).setCell (p:=⟨pb,3,none⟩) (.inl (show az pb pb from rfl)) _;refine⟨k+1,.slice A2 (k+1) c2,cD,by push_cast;rfl,dG.store 3 (.slice A2 (k+1) c2),?_,lE,bu.setCell (p:=⟨pb,3,none⟩) (.inl (show az pb pb from rfl)) _⟩;exact js
   case measure=>simp[intOf];have:=cD.out;omega
  ·obtain rfl:k=l.length:=aj;clear aY hk;go_wp2;go_ret;have h1:=HZ.out;have h2:=JC.out;have h4:=l5.size;have py:=HB.out;refine⟨⟨pb,v,ob,A,c,t,wr.heap.size⟩,rfl,⟨fun _=>aT,⟨?_,?_,fun _ _=>aA.nil _ _ _,HH.off l5 fun h0 k o e e2=>(by have h9:k=pb:=e2;have h8:=rC.blk h0 e;omega),l5.ak NU (fun e2=>by have h9:ob=pb:=e2;omega),HT,HB.lt,fun g hg=>HR.lt hg,by have:=HB.lt;dsimp only;omega,fun h0 k o e=>⟨?_,?_⟩,dX _⟩⟩,rfl,rfl,rfl,h1.1,h1.2.1,fun g hg=>Nat.le_trans h2 (HF g hg),HO.aG l5 fun k hk=>.inr (by have h9:k=pb:=hk;omega)⟩
   ·show Box wr pb _ (Gx A l.length c ob ((t+1:Nat):Int) v)
    rw[←Vi.out];exact py
   ·have h6:=HR.out;rw[show List.replicate l.length (Value.slice none 0 0)=AQ l.length (fun _=>aT) by simp[AQ,List.map_const']]at h6;exact h6
   ·exact Nat.lt_of_lt_of_le (rC.blk h0 e) (Nat.le_trans h2 h4)
   ·intro hk;have h7:=HF.out k hk;have h8:=rC.blk h0 e;omega
end
theorem tW {P:Program}(w:World)(t ty e:TypeId){z:Value}{size bytes c:Nat}(ee:(P.info? e).map (fun i=>(i.zero,i.size,i.bytes))=some (some z,size,bytes))(ht:P.underlying t=some (.slice e)):
 (Builtin.append_ #[t,t] ty #[aT,.slice none 0 c]).run P w= .ok aT w:=by
 obtain⟨i,hi,hz,hs,iq⟩:=info_parts ee;simp[Builtin.append_,run_underlying ht,sizeOf,typeInfo,hi,Builtin.lenOf,Builtin.firstCells,loadCells,loadCellsFrom]
theorem wF {P:Program}(w:World){ops:Array Oper}{rest:List Oper}{o:Oper}{a:Act}{Q:Exit→Act→World→Prop}(qw:o.guard=none)(s x:Operand)(t e:TypeId)
 (ho:o.op= .call {callee:=.builtin .append,args:=#[s,x],argTypes:=#[t,t]}) {z:Value} {size bytes c:Nat}
 (ee:(P.info? e).map (fun i=>(i.zero,i.size,i.bytes))=some (some z,size,bytes)) (ht:P.underlying t=some (.slice e))
 (hs:a.eval s=aT) (hx:a.eval x= .slice none 0 c) (h:wpList P ops Q rest (a.put o.dst aT) w):wpList P ops Q (o :: rest) a w:=by
 have hr:=tW (P:=P) (c:=c) w t o.type e ee ht;refine wpList_plain qw fun K hK=>?_
 unfold Oper.wp execOp;simp only[ho,resolve,invoke,builtin,Sem.run_bind,Sem.run_pure,Result.andThen_ok,List.map_toArray,List.map_cons,List.map_nil,hs,hx,hr];exact hK _ _ h
def Nr:aQ:=⟨fun _=>0,[]⟩
theorem mI (c:aQ)(A:Option Addr)(n m:Nat):(ao c (.slice A n m)).all (·.oneCell')=true:=by simp[ao,Value.oneCell']
def Qu (c:aQ)(w:World)(e:Ending)(w':World):Prop:=
 ∃A m,e= .returned (.agg (ao c (.slice A c.h.length m)))∧aX w' A c.h.length m c.h∧(∀k,aJ (.slice A c.h.length m) k→w.heap.size≤k)∧af au w w'
section
theorem LN {A:Option Addr}{n cp:Nat}{c:aQ}(w:World)(bL:aX w A n cp c.h)(hl:c.h.length≤100):
 Calls Tryz.prog 40 #[.agg (ao c (.slice A n cp))] w (Qu c w):=by
 obtain rfl:=bL.len;have rC:=ae bL;have HL:=ae hl;have vf:=ae<|(af.ai au w).alloc (.cells (ao c (.slice A c.h.length cp)) 25);have Be:=ae<|Box.fresh w 25 (ao c (.slice A c.h.length cp));clear bL hl
 go_enter Tryz.func40,Tryz.ntmps40
 go_upto_region 1 with fail;change Code.wp _ _ _ _ ((w.alloc (.cells (ao c (.slice A c.h.length cp)) 25)).alloc (.cells (ao Nr aT) 25));have hsz:(w.alloc (.cells (ao c (.slice A c.h.length cp)) 25)).heap.size=w.heap.size+1:=World.size_alloc ..;generalize w.alloc (.cells (ao c (.slice A c.h.length cp)) 25)=W0 at *;obtain⟨cb,jV⟩:∃cb,cb=w.heap.size:=⟨_,rfl⟩;have AO:=aq (w.heap.size≤cb) (Nat.le_of_eq jV.symm);rw[←jV]at Be hsz ⊢;clear jV;have aK:af au W0 (W0.alloc (.cells (ao Nr aT) 25)):=(af.ai au W0).alloc _;have cy:=ae<|Box.fresh W0 25 (ao Nr aT);have b8:=ae<|aK.ak Be id;have bc:=ae<|vf.trans aK;have Xu:=ae<|rC.ar bc fun _ _=>id;clear aK Be vf;generalize W0.alloc (.cells (ao Nr aT) 25)=W1 at *;rw[hsz]at cy;clear hsz;have l6:=aq (cb+1≠cb∧w.heap.size≤cb+1) (⟨aj,by have:=AO.out;omega⟩);generalize cb+1=rb at *;have y16:aM W1 cb 16 (.slice A c.h.length cp):=b8.ag rfl;have f16:W1.frozen? ⟨cb,16,none⟩=false:=b8.free 16
 cases A with
 |none=>
  have h0:c.h.length=0:=by
   rcases Nat.eq_zero_or_pos c.h.length with h|h
   ·exact h
   ·obtain⟨g,o,e,_⟩:=Xu.at_ 0 h
    cases e
  have H0:=ae h0;rw[h0]at y16;clear h0;go_upto_region 4 with(at_builtin;refine wF _ rfl (.tmp 4) (.tmp 6) 23 100 rfl vQ Tryz.underlying23 rfl rfl ?_);have ey:af (az cb) W1 (W1.setCell ⟨cb,16,none⟩ aT):=(af.ai (az cb) W1).setCell (p:=⟨cb,16,none⟩) (.inl (show az cb cb from rfl)) _;have sc:=aq (Box _ cb 25 (ao c aT)) (b8.store 16 aT);have jh:=ae<|ey.ak cy l6.1;have Sx:=aq (aX _ none c.h.length 0 c.h) (((show Hid (aX W1 none c.h.length 0 c.h)from ae ⟨rfl,by rw[H0.out];exact dX _,fH _,fun i hi=>by have:=H0.out;omega⟩).out.off ey fun h0 k o e e2=>(by have:=H0.out;omega)));have cr:=ae<|bc.setCell (p:=⟨cb,16,none⟩) (.inr AO) aT;change Code.wp _ _ _ _ (W1.setCell ⟨cb,16,none⟩ aT);clear ey;generalize W1.setCell ⟨cb,16,none⟩ aT=W4 at *;go_wp2_with (first|(refine iy (ao c aT) sc Tryz.underlying25 ?_)|(refine iP (ao c aT) jh (mI _ _ _ _) ?_))
  (try simp only[Exit.inBlock,Exit.then])
  refine bodyPost_ret (results_cell_row rfl _ _ rb _ (ao c aT) (0,0) _ rfl (jh.aw _) Tryz.underlying25 rfl aS) rfl ?_;have gM:af (az rb) W4 (W4.setRow rb (ao c aT)):=(af.ai (az rb) W4).aw (.inl rfl) _;exact⟨none,0,by rw[H0.out],Sx.off gM (fun h0=>by have:=H0.out;omega),fun k hk=>(bo hk).elim,cr.aw (.inr l6.2) _⟩
 |some ad=>
  obtain⟨i0,hi,hz,hsz,iq⟩:=info_parts vQ;have lI:=aq (W1.ownsRow W1.heap.size 100 4 aT 0 []) (⟨rfl,.inl ⟨rfl,rfl⟩⟩);have Vz:=ae<|Xu.cells ad rfl;have HON:=aq (∀u∈c.h.flatMap hC,u.oneCell'=true) (fun u hu=>by
   obtain⟨p,hp,hu⟩:=List.mem_flatMap.1 hu;simp[hC]at hu;rcases hu with rfl|rfl|rfl|rfl<;>rfl)
  have HI:=ae hi;have HZ:=ae hz;have HS:=ae hsz;have VB:=ae iq;clear hi hz hsz iq;go_upto_region 3 with(at_builtin;refine wpList_append_own_at W1 rfl (.tmp 4) (.tmp 6) 23 rfl W1.heap.size 100 i0 _ 4 32 Tryz.underlying23 HI HZ HS VB rfl aE _ 0 [] rfl lI ad c.h.length cp (c.h.flatMap hC) rfl (tN c.h) Vz HON jT eZ (dX _) ?_;intro v' w1 h2 h3 h4 h5;rw[Nat.zero_add,List.nil_append]at h2;obtain⟨A3,m3,rfl,hh⟩:=wy h2;have Vw:=ae hh;have vj:=ae<|fun k hk=>(World.ownsRow.lt h2 k hk).1;have bI:=aq (af au W1 w1) ((af.ai au W1).grown h3 fun k hk=>by cases hk);clear h2 h3 h4 h5 hh);have hG:=ae<|bI.ak b8 id;have ej:=ae<|bI.ak cy id;have abu:=ae<|bc.trans bI;have cD:=aq (cb<W1.heap.size∧rb<W1.heap.size∧w.heap.size≤W1.heap.size) (⟨b8.lt,cy.lt,bc.size⟩);have g16:aM w1 cb 16 (.slice (some ad) c.h.length cp):=hG.ag rfl;have gf:w1.frozen? ⟨cb,16,none⟩=false:=hG.free 16;clear b8 cy y16 f16 lI Vz;go_upto_region 4 with fail;have ey:af (az cb) w1 (w1.setCell ⟨cb,16,none⟩ (.slice A3 c.h.length m3)):=(af.ai (az cb) w1).setCell (p:=⟨cb,16,none⟩) (.inl (show az cb cb from rfl)) _;have sc:=aq (Box _ cb 25 (ao c (.slice A3 c.h.length m3))) (hG.store 16 (.slice A3 c.h.length m3));have jh:=ae<|ey.ak ej l6.1;have Sx:=aq (aX _ A3 c.h.length m3 c.h) ((Vw.off ey fun h0 k o e e2=>(by have h9:k=cb:=e2;have:=vj.out k fg;have:=cD.1;omega)));have cr:=ae<|abu.setCell (p:=⟨cb,16,none⟩) (.inr AO) (.slice A3 c.h.length m3);change Code.wp _ _ _ _ (w1.setCell ⟨cb,16,none⟩ (.slice A3 c.h.length m3));clear ey;generalize w1.setCell ⟨cb,16,none⟩ (.slice A3 c.h.length m3)=W4 at *;go_wp2_with (first|(refine iy (ao c (.slice A3 c.h.length m3)) sc Tryz.underlying25 ?_)|(refine iP (ao c (.slice A3 c.h.length m3)) jh (mI _ _ _ _) ?_))
  (try simp only[Exit.inBlock,Exit.then])
  refine bodyPost_ret (results_cell_row rfl _ _ rb _ (ao c (.slice A3 c.h.length m3)) (0,0) _ rfl (jh.aw _) Tryz.underlying25 rfl aS) rfl ?_;have gM:af (az rb) W4 (W4.setRow rb (ao c (.slice A3 c.h.length m3))):=(af.ai (az rb) W4).aw (.inl rfl) _;exact⟨A3,m3,rfl,Sx.off gM (fun h0 k o e e2=>by have h9:k=rb:=e2;have:=vj.out k fg;have:=cD.2.1;omega),fun k hk=>Nat.le_trans cD.2.2 (vj k hk),cr.aw (.inr l6.2) _⟩
end
def kl (c:aQ)(hv:Value)(aP:Int)(lv mp pp dv:Value):Array Value:=ao c hv ++ #[ah aP,lv,mp,pp,dv]
section
variable {c:aQ}{hv lv mp pp dv:Value}{aP:Int}{w:World}{cb:Nat}
theorem kB (hb:Box w cb 96 (kl c hv aP lv mp pp dv)){i:Nat}(hi:i<16):aF w cb i (c.f i):=by
 refine hb.ag ?_;unfold kl;exact gB
theorem Q8 (hb:Box w cb 96 (kl c hv aP lv mp pp dv)):aF w cb 17 aP:=hb.ag rfl
theorem KQ (hb:Box w cb 96 (kl c hv aP lv mp pp dv)):aM w cb 18 lv:=hb.ag rfl
theorem sv (hb:Box w cb 96 (kl c hv aP lv mp pp dv)):aM w cb 19 mp:=hb.ag rfl
theorem rj (hb:Box w cb 96 (kl c hv aP lv mp pp dv)):aM w cb 20 pp:=hb.ag rfl
theorem Y0 (hb:Box w cb 96 (kl c hv aP lv mp pp dv)):aM w cb 21 dv:=hb.ag rfl
end
def xS (base:Nat)(L:List Int)(w:World)(e:Ending)(w':World):Prop:=∃v,e= .returned v∧aA 3 w' base v L∧af au w w'
section
variable {c:aQ}{hv lv dv:Value}{aP:Int}{w:World}{cb base:Nat}{L:List Int}
theorem L0 (hb:Box w cb 96 (kl c hv aP lv (.pointer none) (.pointer none) dv))(h:aA 3 w base lv L):
 Calls Tryz.prog 25 #[aO cb] w (xS base L w):=by
 obtain⟨A,n,rfl,_,_⟩:=h.shape;have H:=ae h;have x1:=KQ hb;have x2:=sv hb;have x3:=rj hb;clear hb h
 go_enter Tryz.func25,Tryz.ntmps25
 go_wp2_with fail;go_ret;exact⟨_,rfl,H,af.ai _ _⟩
theorem uN {j:iU}{P:cI}{s:cC}(hb:Box w cb 96 (kl c hv aP lv (aO j.mb) (.pointer none) dv))(h:jg j P s w)(bN:dJ P s)(hP:P.Ok):
 Calls Tryz.prog 25 #[aO cb] w (xS w.heap.size (aI P s) w):=by
 have H:=ae<|Pe h bN hP;have x2:=sv hb;have x3:=rj hb;clear hb h bN hP
 go_enter Tryz.func25,Tryz.ntmps25
 go_wp2_with (go_at_call 49;refine H.mono ?_;rintro e W1 ⟨v,rfl,h1,h2⟩);go_ret;exact⟨_,rfl,h1,h2⟩
theorem LZ {j:Az}{l:List aH}{O:Nat→Nat→Int}{S:Nat→List Int}{blocks:Int}{mp:Value}(hb:Box w cb 96 (kl c hv aP lv mp (aO j.pb) dv))(h:Df j l O S w)(hI:cz l O j.t S)(hP:cT blocks l):
 Calls Tryz.prog 25 #[aO cb] w (xS w.heap.size (b9 S l.length) w):=by
 have H:=ae<|Pa h hI hP;have x3:=rj hb;clear hb h hI hP
 go_enter Tryz.func25,Tryz.ntmps25
 go_wp2_with (go_at_call 48;refine H.mono ?_;rintro e W1 ⟨v,rfl,h1,h2⟩);go_ret;exact⟨_,rfl,h1,h2⟩
theorem zp {b:Int}(h:Calls Tryz.prog 25 #[aO cb] w (xS base L w)):
 Calls Tryz.prog 78 #[aO cb,ah b] w fun e w'=>e= .returned (.bool (decide (b∈L)))∧af au w w':=by
 have H:=ae h;clear h
 go_enter Tryz.func78,Tryz.ntmps78
 go_wp2_with (first|(go_at_call 25;refine H.mono ?_;rintro e W1 ⟨v,rfl,h1,h2⟩;obtain⟨A,n,rfl,wU,uC⟩:=h1.shape;have HH:=ae<|ef A n _ L b W1 h1.at (Nat.le_trans wU uC);have HO:=ae h2;clear h1 h2 wU uC)|(go_at_call 18;refine HH.mono ?_;rintro e W2 ⟨rfl,rfl⟩));go_ret;exact⟨rfl,HO⟩
end
section
variable {c:aQ}{hv lv mp dv:Value}{aP kd b v:Int}{g was:Bool}{w:World}{cb:Nat}{j:Az}{l:List aH}{O:Nat→Nat→Int}{S':Nat→List Int}
theorem Ph (hb:Box w cb 96 (kl c hv aP lv mp (aO j.pb) dv))(hB:j.B≤w.heap.size)(hr:∀k,aJ j.lv k→k<j.B∧k≠cb)
 (hD:∀w',af au w w'→Calls Tryz.prog 106 #[aO j.pb,.agg #[ah kd,ah b]] w' (zc j l O S' v g was w')):
 Calls Tryz.prog 77 #[aO cb,.agg #[ah kd,ah b]] w (zc j l O S' v g was w):=by
 have HB:=ae hb;have HD:=ae hD;have HJ:=ae hB;have Sr:=ae hr;have wT:=ae<|Box.fresh w 139 #[ah kd,ah b];have vf:=ae<|(af.ai au w).alloc (.cells #[ah kd,ah b] 139);clear hb hD hB hr
 go_enter Tryz.func77,Tryz.ntmps77
 go_upto_region 1 with fail;change Code.wp _ _ _ _ ((w.alloc (.cells #[ah kd,ah b] 139)).alloc (.cells (bW 0 false false) 136));have hsz:(w.alloc (.cells #[ah kd,ah b] 139)).heap.size=w.heap.size+1:=World.size_alloc ..;generalize w.alloc (.cells #[ah kd,ah b] 139)=W0 at *;obtain⟨ab,fS⟩:∃ab,ab=w.heap.size:=⟨_,rfl⟩;rw[←fS]at wT hsz ⊢;have lj:=aq (w.heap.size≤ab) (Nat.le_of_eq fS.symm);clear fS;have aK:af au W0 (W0.alloc (.cells (bW 0 false false) 136)):=(af.ai au W0).alloc _;have cy:=ae<|Box.fresh W0 136 (bW 0 false false);have dZ:=ae<|aK.ak wT id;have bc:=ae<|vf.trans aK;clear aK wT vf;generalize W0.alloc (.cells (bW 0 false false) 136)=W1 at *;rw[hsz]at cy;clear hsz;have dt:=ae (show w.heap.size≤ab+1 by have:=lj.out;omega);generalize ab+1=rb at *;have uI:=aq (¬aJ j.lv cb∧¬aJ j.lv ab∧¬aJ j.lv rb) (⟨fun h=>(Sr _ h).2 rfl,fun h=>by have:=(Sr _ h).1;have:=HJ.out;have:=lj.out;omega,fun h=>by have:=(Sr _ h).1;have:=HJ.out;have:=dt.out;omega⟩);have x3:=rj (bc.ak HB id);go_upto_region 2 with fail;have k1:aM W1.drew cb 20 (aO j.pb):=x3;have k2:Box W1.drew ab 139 #[ah kd,ah b]:=dZ.out;refine pG (fun w':World=>aM w' cb 20 (aO j.pb)∧Box w' ab 139 #[ah kd,ah b]) 6 fun aC=>?_
 refine bE [0,1,2,3] ?_;refine aB (i:=4) (v:=.agg #[ah kd,ah b]) aS rfl aS (fun _ _ _ h=>h) (yieldsIf_load_mid (by rfl) 139 _ rfl ab 0 rfl (#[Value.int .i64 kd,ah b]:Array Value).toList _ (fun w hw j v hj=>by rw[Nat.zero_add];exact hw.2.ag (by rw[←Array.getElem?_toList];exact hj)) Tryz.underlying139 rfl aS) (by assumption) ?_;refine dU ?_;refine cX 5 fun Kc hK=>?_
 go_simp;refine(HD W1.drew ((bc).drew)).mono ?_;rintro e W2 ⟨rfl,h1,h2⟩;have fX:=ae h1;have bu:=ae<|(af.ai (aJ j.lv) W1).drew.trans h2;have k1:=h2.cell aC.1 uI.1;have k2:=h2.ak aC.2 uI.2.1;clear h1 h2;refine Ai hK fun aC=>?_
 clear hK;refine dE ?_;have ej:=ae<|bu.ak cy uI.2.2;have bI:=ae<|(bc.mono fun _ hb=>hb.elim).trans bu;clear aC k1 k2 x3;refine iP (bW v g was) ej (kf _ _ _) ?_;go_wp2
 (try simp only[Exit.inBlock,Exit.then])
 refine bodyPost_ret (results_cell_row rfl _ _ rb _ (bW v g was) (0,0) _ rfl (ej.aw _) Tryz.underlying136 rfl aS) rfl ?_;have gM:af (az rb) W2 (W2.setRow rb (bW v g was)):=(af.ai (az rb) W2).aw (.inl rfl) _;obtain⟨qv,hq⟩:=fX.out;exact⟨rfl,⟨qv,hq.jZ ej (by have:=HJ.out;have:=dt.out;omega) gM⟩,bI.aw (.inr dt) _⟩
end
def aa7 (c:aQ)(hv:Value)(aP:Int)(dv:Value)(cb base:Nat)(L':List Int)(v:Int)(g was:Bool)(w:World)(e:Ending)(w':World):Prop:=
 ∃A n m,e= .returned (.agg (cR (.slice A n m) v g was 0))∧aA 3 w' base (.slice A n m) L'∧Box w' cb 96 (kl c hv aP (.slice A n m) (.pointer none) (.pointer none) dv)∧af (az cb) w w'
section
variable {c:aQ}{hv lv dv:Value}{kd b v:Int}{g was:Bool}{w:World}{cb base k:Nat}{L L':List Int}
theorem oW{P:Prop}(h:P:=by
 refine iP (cR (.slice A2 n2 m2) v g was 0) SB (ij _ _ _ _ _ _ _) ?_;go_upto_region 5 with fail;have hse:af (az eb) Wt (Wt.setRow eb (cR (.slice A2 n2 m2) v g was 0)):=(af.ai (az eb) Wt).aw (.inl rfl) _;have Kg:=ae<|SB.aw (cR (.slice A2 n2 m2) v g was 0);have Vm:=ae<|hse.ak JF l6;have SE:=ae<|hse.ak HBt (HBt.off SB aE);have HVu:=ae (HVt.ar hse fun g hg e=>by
  obtain⟨cs,h9⟩:=HVt.gb hg;exact(h9.off SB aE) e)
 have Xm:=ae<|HOt.aw (.inr eB) (cR (.slice A2 n2 m2) v g was 0);change Code.wp _ _ _ _ (Wt.setRow eb (cR (.slice A2 n2 m2) v g was 0));clear hse SB JF HBt HVt HOt;generalize Wt.setRow eb (cR (.slice A2 n2 m2) v g was 0)=Wu at *;have y0:aM Wu eb 0 (.slice A2 n2 m2):=Kg.ag rfl;have y18:=KQ SE;have f18:Wu.frozen? ⟨cb,18,none⟩=false:=SE.free 18;go_upto_region 6 with fail;have hsc:af (az cb) Wu (Wu.setCell ⟨cb,18,none⟩ (.slice A2 n2 m2)):=(af.ai (az cb) Wu).setCell (p:=⟨cb,18,none⟩) (.inl (show az cb cb from rfl)) _;have HBw:=aq (Box _ cb 96 (kl c hv ((k+1:Nat):Int) (.slice A2 n2 m2) (.pointer none) (.pointer none) dv)) (SE.store 18 (.slice A2 n2 m2));have HEw:=ae<|hsc.ak Kg (Kg.off SE aE);have HRw:=ae<|hsc.ak Vm (Vm.off SE aE);have HVw:=ae (HVu.ar hsc fun g hg e=>by
  obtain⟨cs,h9⟩:=HVu.gb hg;exact(h9.off SE aE) e)
 have Fj:=aq (af (az cb) w _) (((Xm.mono fun _ hb=>hb.elim:af (az cb) w Wu)).trans hsc);change Code.wp _ _ _ _ (Wu.setCell ⟨cb,18,none⟩ (.slice A2 n2 m2));clear hsc Kg Vm SE HVu Xm y0 y18 f18;generalize Wu.setCell ⟨cb,18,none⟩ (.slice A2 n2 m2)=Ww at *;go_wp2_with (first|(refine iy (cR (.slice A2 n2 m2) v g was 0) HEw Tryz.underlying136 ?_)|(refine iP (cR (.slice A2 n2 m2) v g was 0) HRw (ij _ _ _ _ _ _ _) ?_))
 (try simp only[Exit.inBlock,Exit.then])
 refine bodyPost_ret (results_cell_row rfl _ _ rb _ (cR (.slice A2 n2 m2) v g was 0) (0,0) _ rfl (HRw.aw _) Tryz.underlying136 rfl aS) rfl ?_;have gM:af (az rb) Ww (Ww.setRow rb (cR (.slice A2 n2 m2) v g was 0)):=(af.ai (az rb) Ww).aw (.inl rfl) _;exact⟨A2,n2,m2,rfl,HVw.ar gM fun g hg e=>(by
  obtain⟨cs,h9⟩:=HVw.gb hg;exact(h9.off HRw aE) e),gM.ak HBw (HBw.off HRw aE),Fj.aw (.inr dt) _⟩):P:=h
theorem eS{P:Prop}(h:P:=by
 exact⟨by first|exact aC.1.alloc _|exact kb|exact kb.alloc _|assumption,by first|exact aC.2.1.alloc _|exact ka|exact ka.alloc _|assumption,by first|exact aC.2.2.alloc _|exact ko|exact ko.alloc _|exact bc.drew⟩):P:=h
theorem Pj (hk:k<3)(hb:Box w cb 96 (kl c hv ((k+1:Nat):Int) lv (.pointer none) (.pointer none) dv))(hl:aA 3 w base lv L)
 (hD:∀w',af au w w'→Calls Tryz.prog 107 #[lv,ah (c.f (9+k)),.agg #[ah kd,ah b]] w' (rK base L' v g was w')):
 Calls Tryz.prog 77 #[aO cb,.agg #[ah kd,ah b]] w (aa7 c hv ((k+1:Nat):Int) dv cb base L' v g was w):=by
 obtain⟨A,m,rfl,_,_⟩:=hl.shape;have HB:=ae hb;have HD:=ae hD;have wT:=ae<|Box.fresh w 139 #[ah kd,ah b];have vf:=ae<|(af.ai au w).alloc (.cells #[ah kd,ah b] 139);clear hb hD hl
 go_enter Tryz.func77,Tryz.ntmps77
 go_upto_region 1 with fail;change Code.wp _ _ _ _ ((w.alloc (.cells #[ah kd,ah b] 139)).alloc (.cells (bW 0 false false) 136));have hsz:(w.alloc (.cells #[ah kd,ah b] 139)).heap.size=w.heap.size+1:=World.size_alloc ..;generalize w.alloc (.cells #[ah kd,ah b] 139)=W0 at *;obtain⟨ab,fS⟩:∃ab,ab=w.heap.size:=⟨_,rfl⟩;rw[←fS]at wT hsz ⊢;have lj:=aq (w.heap.size≤ab) (Nat.le_of_eq fS.symm);clear fS;have aK:af au W0 (W0.alloc (.cells (bW 0 false false) 136)):=(af.ai au W0).alloc _;have cy:=ae<|Box.fresh W0 136 (bW 0 false false);have dZ:=ae<|aK.ak wT id;have bc:=ae<|vf.trans aK;clear aK wT vf;generalize W0.alloc (.cells (bW 0 false false) 136)=W1 at *;rw[hsz]at cy;clear hsz;have dt:=ae (show w.heap.size≤ab+1 by have:=lj.out;omega);generalize ab+1=rb at *;have b8:=ae<|bc.ak HB id;have x2:=sv b8;have x3:=rj b8;go_upto_region 4 with fail;have kb:Box W1.drew cb 96 (kl c hv ((k+1:Nat):Int) (.slice A L.length m) (.pointer none) (.pointer none) dv):=b8.out;have ka:Box W1.drew ab 139 #[ah kd,ah b]:=dZ.out;have hwt:IntKind.i64.wrap (((k+1:Nat):Int) - 1)=k:=by rw[IntKind.wrap_i64];omega
 have hwk:IntKind.i64.wrap (k:Int)=k:=by rw[IntKind.wrap_i64];omega
 have Gj:(k:Int)<3:=aj;clear x2 x3;refine gg (fun w':World=>Box w' cb 96 (kl c hv ((k+1:Nat):Int) (.slice A L.length m) (.pointer none) (.pointer none) dv)∧Box w' ab 139 #[ah kd,ah b]∧af au w w') 18 ?_ ?_
 ·exact eS
 intro aC;refine bE [0,1,2] ?_;refine aB (i:=3) (v:=.slice A L.length m) aS rfl aS (fun _ _ _ h=>h) (Or.inl ⟨by rfl,fun w hSw=>?_⟩) (by assumption) ?_
 ·have xx:=KQ hSw.1;clear hSw;go_simp
 refine dU ?_;refine bE [4,5,6,7] ?_;refine aB (i:=8) (v:=ah ((k+1:Nat):Int)) aS rfl aS (fun _ _ _ h=>h) (Or.inl ⟨by rfl,fun w hSw=>?_⟩) (by assumption) ?_
 ·have xx:=Q8 hSw.1;clear hSw;go_simp
 refine dU ?_;refine bE [9,10,11,12,13] ?_;refine aB (i:=14) (v:=ah (c.f (9+k))) aS rfl aS (fun _ _ _ h=>h) (Or.inl ⟨by rfl,fun w hSw=>?_⟩) (by assumption) ?_
 ·have xx:=kB hSw.1 (i:=9+k) aj;clear hSw;go_simp
 refine dU ?_;refine aB (i:=15) (v:=.agg #[ah kd,ah b]) aS rfl aS (fun _ _ _ h=>h) (yieldsIf_load_mid (by rfl) 139 _ rfl ab 0 rfl (#[Value.int .i64 kd,ah b]:Array Value).toList _ (fun w hw j v hj=>by rw[Nat.zero_add];exact hw.2.1.ag (by rw[←Array.getElem?_toList];exact hj)) Tryz.underlying139 rfl aS) (by assumption) ?_;refine dU ?_;refine kE (i:=16) (j:=17) rfl rfl aS (fun Kc hK=>?_) (fun Kc hK=>?_)
 ·go_simp;refine(HD _ aC.2.2).mono ?_;rintro e W2 ⟨A2,n2,m2,rfl,h1,h2⟩;have uW:=ae h1;have kb:=h2.ak aC.1 id;have ka:=h2.ak aC.2.1 id;have ko:=aC.2.2.trans h2;have kn:=ae h2;clear h1 h2;refine dy hK ?_ fun aC=>?_
  ·exact eS
  clear hK;refine cX 17 fun Kc hK=>?_
  go_simp;refine dy hK ?_ fun aC=>?_
  ·exact eS
  clear hK;refine dE ?_;have fW:af au W2 (W2.alloc (.cells (bW 0 false false) 136)):=(af.ai au W2).alloc _;have SB:=ae<|Box.fresh W2 136 (bW 0 false false);have HVt:=ae<|uW.ar fW fun _ _=>id;have eB:=aq (w.heap.size≤W2.heap.size) (ko.size);have JF:=ae<|(fW.ak (kn.out.ak (((af.ai au W1).drew).ak cy id) id) id);have l6:=aq (rb≠W2.heap.size) (Nat.ne_of_lt (kn.out.ak (((af.ai au W1).drew).ak cy id) id).lt);have HBt:=aq (Box (W2.alloc (.cells (bW 0 false false) 136)) _ _ _) (aC.1);have HOt:=aq (af au w (W2.alloc (.cells (bW 0 false false) 136))) (aC.2.2);clear aC kb ka ko kn fW cy;change wpList _ _ _ _ _ (W2.alloc (.cells (bW 0 false false) 136));generalize W2.alloc (.cells (bW 0 false false) 136)=Wt at *;generalize W2.heap.size=eb at *;exact oW
 ·go_simp;refine dy hK ?_ fun aC=>?_
  ·exact eS
  clear hK;refine cX 16 fun Kc hK=>?_
  go_simp;refine(HD _ aC.2.2).mono ?_;rintro e W2 ⟨A2,n2,m2,rfl,h1,h2⟩;have uW:=ae h1;have kb:=h2.ak aC.1 id;have ka:=h2.ak aC.2.1 id;have ko:=aC.2.2.trans h2;have kn:=ae h2;clear h1 h2;refine dy hK ?_ fun aC=>?_
  ·exact eS
  clear hK;refine dE ?_;have SB:=ae<|kn.out.ak (Box.fresh W1.drew 136 (bW 0 false false)) id;have HVt:=ae uW;have eB:=aq (w.heap.size≤W1.heap.size) (bc.size);have JF:=ae<|kn.out.ak ((((af.ai au W1).drew).alloc (.cells (bW 0 false false) 136)).ak cy id) id;have l6:=aq (rb≠W1.heap.size) (Nat.ne_of_lt cy.lt);have HBt:=ae aC.1;have HOt:=ae aC.2.2;clear aC kb ka ko kn cy;generalize W2=Wt at *;have hWW:W1.drew.heap.size=W1.heap.size:=rfl;rw[hWW]at SB;clear hWW;generalize W1.heap.size=eb at *;exact oW
end
theorem jg.Dv {j:iU}{P:cI}{s:cC}{w w':World}(h:jg j P s w){g:Nat}{cs:Array Value}{t:TypeId}(hb:Box w g t cs)(h1:145≠t)(h2:47≠t)(h3:3≠t)(ho:af (az g) w w'):jg j P s w':=by
 obtain⟨gv,qv,h⟩:=h;have nI:∀{v:Value} {l:List Int},aA 3 w j.B v l→∀k,aJ v k→¬az g k:=fun hv k hk e=>by
  obtain⟨c2,h4⟩:=hv.gb hk;exact(h4.off hb h3) e
 refine⟨gv,qv,ho.ak h.ak (h.ak.off hb h1),h.row.ar ho fun k hk e=>?_,fun i hi=>(h.q i hi).ar ho (nI (h.q i hi)),h.g.ar ho (nI h.g),ho.ak h.of (h.of.off hb h3),ho.ak h.ex (h.ex.off hb h3),h.lt,h.ne,Nat.le_trans h.bs ho.size⟩;obtain⟨c2,h4⟩:=h.row.ak hk;exact(h4.off hb h2) e
def S8 (j:iU)(P:cI)(s':cC)(v:Int)(g was:Bool)(w:World)(e:Ending)(w':World):Prop:=
 e= .returned (.agg (bW v g was))∧jg j P s' w'∧af (RF j) w w'
section
variable {c:aQ}{hv lv dv:Value}{aP:Int}{w:World}{cb n:Nat}{j:iU}{P:cI}{s:cC}
theorem Ee (hb:Box w cb 96 (kl c hv aP lv (aO j.mb) (.pointer none) dv))(jV:¬RF j cb)(h:jg j P s w)(bN:dJ P s)(hP:P.Ok)(h1:s.now≤1000000000)(hn:(n:Int)∈aI P s):
 Calls Tryz.prog 77 #[aO cb,.agg #[ah 0,ah n]] w (S8 j P (kC P s n) 0 false true w):=by
 have HB:=ae hb;have HH:=ae h;have HK:=ae bN;have HP:=ae hP;have HD:=ae<|fun(W:World) (hr:jg j P s W)=>wk (n:=n) hr bN hP h1 hn;have vg:=aq (decide ((n:Int)∈aI P s)=true) (decide_eq_true hn);have wT:=ae<|Box.fresh w 139 #[ah 0,ah n];have vf:=ae<|(af.ai au w).alloc (.cells #[ah 0,ah n] 139);clear hb h bN hP hn
 go_enter Tryz.func77,Tryz.ntmps77
 go_upto_region 1 with fail;change Code.wp _ _ _ _ ((w.alloc (.cells #[ah 0,ah n] 139)).alloc (.cells (bW 0 false false) 136));have hsz:(w.alloc (.cells #[ah 0,ah n] 139)).heap.size=w.heap.size+1:=World.size_alloc ..;generalize w.alloc (.cells #[ah 0,ah n] 139)=W0 at *;obtain⟨ab,fS⟩:∃ab,ab=w.heap.size:=⟨_,rfl⟩;rw[←fS]at wT hsz ⊢;have lj:=aq (w.heap.size≤ab) (Nat.le_of_eq fS.symm);clear fS;have aK:af au W0 (W0.alloc (.cells (bW 0 false false) 136)):=(af.ai au W0).alloc _;have cy:=ae<|Box.fresh W0 136 (bW 0 false false);have dZ:=ae<|aK.ak wT id;have bc:=ae<|vf.trans aK;clear aK wT vf;generalize W0.alloc (.cells (bW 0 false false) 136)=W1 at *;rw[hsz]at cy;clear hsz;have dt:=ae (show w.heap.size≤ab+1 by have:=lj.out;omega);generalize ab+1=rb at *;have b8:=ae<|bc.ak HB id;have x2:=sv b8;have x3:=rj b8;have y1:aF W1 ab 1 n:=dZ.ag rfl;have fF:=ae<|zp (b:=(n:Int)) (uN b8 (HH.keep bc) HK HP);rw[vg.out]at fF;go_upto_region 8 with(go_at_call 78;refine fF.mono ?_;rintro e Wm ⟨rfl,hm⟩;have pA:=ae hm;clear hm);change Code.wp _ _ _ _ (Wm.alloc (.cells (bW 0 false true) 136));have bq:af au W1 (Wm.alloc (.cells (bW 0 false true) 136)):=pA.alloc _;have ks:=ae<|Box.fresh Wm 136 (bW 0 false true);have ej:=ae<|bq.ak cy id;have gj:=ae<|bq.ak dZ id;have hG:=ae<|bq.ak b8 id;have bI:=ae<|bc.trans bq;have eB:=aq (w.heap.size≤Wm.heap.size) ((bc.trans pA).size);clear bq fF cy dZ b8 bc pA x2 x3 y1;generalize Wm.alloc (.cells (bW 0 false true) 136)=W3 at *;generalize Wm.heap.size=eb at *;have uI:=aq (¬RF j cb∧¬RF j ab∧¬RF j rb∧¬RF j eb) (⟨jV,HH.mK lj,HH.mK dt,HH.mK eB⟩);have HD:=ae<|fun(W:World) (ho:af au W3 W)=>HD W (HH.keep (bI.trans ho));have y0:aF W3 ab 0 0:=gj.ag rfl;go_upto_region 9 with fail;have k1:aM W3.drew cb 19 (aO j.mb):=sv hG;have k2:aF W3.drew ab 1 n:=gj.ag rfl;refine pG (fun w':World=>aM w' cb 19 (aO j.mb)∧aF w' ab 1 n) 6 fun aC=>?_
 refine bE [0,1,2,3,4,5] ?_;refine dE ?_;clear aC k1 k2 y0;have y0:aF W3.drew ab 0 0:=gj.ag rfl;go_upto_region 17 with(go_at_call 108;refine(HD W3.drew ((af.ai au W3).drew)).mono ?_;rintro e W4 ⟨rfl,h1,h2⟩;have jh:=ae h1;have cr:=ae<|(af.ai (RF j) W3).drew.trans h2;have y9:=h2.cell y0 uI.2.1;clear h1 h2);have ua:=ae<|cr.ak ks uI.2.2.2;have DG:=ae<|cr.ak ej uI.2.2.1;have ek:=ae<|(bI.mono fun _ hb=>hb.elim).trans cr;go_wp2_with (first|(refine iy (bW 0 false true) ua Tryz.underlying136 ?_)|(refine iP (bW 0 false true) DG (kf _ _ _) ?_))
 (try simp only[Exit.inBlock,Exit.then])
 refine bodyPost_ret (results_cell_row rfl _ _ rb _ (bW 0 false true) (0,0) _ rfl (DG.aw _) Tryz.underlying136 rfl aS) rfl ?_;have gM:af (az rb) W4 (W4.setRow rb (bW 0 false true)):=(af.ai (az rb) W4).aw (.inl rfl) _;exact⟨rfl,jh.Dv DG aE aE aE gM,ek.aw (.inr dt) _⟩
theorem Ef (hb:Box w cb 96 (kl c hv aP lv (aO j.mb) (.pointer none) dv))(jV:¬RF j cb)(h:jg j P s w)(bN:dJ P s)(hP:P.Ok)(hn:(n:Int)∈aI P s):
 Calls Tryz.prog 77 #[aO cb,.agg #[ah 2,ah n]] w (S8 j P (ub s n) 0 false true w):=by
 have HB:=ae hb;have HH:=ae h;have HK:=ae bN;have HP:=ae hP;have HD:=ae<|fun(W:World) (hr:jg j P s W)=>Pb (n:=n) hr bN hP hn;have vg:=aq (decide ((n:Int)∈aI P s)=true) (decide_eq_true hn);have wT:=ae<|Box.fresh w 139 #[ah 2,ah n];have vf:=ae<|(af.ai au w).alloc (.cells #[ah 2,ah n] 139);clear hb h bN hP hn
 go_enter Tryz.func77,Tryz.ntmps77
 go_upto_region 1 with fail;change Code.wp _ _ _ _ ((w.alloc (.cells #[ah 2,ah n] 139)).alloc (.cells (bW 0 false false) 136));have hsz:(w.alloc (.cells #[ah 2,ah n] 139)).heap.size=w.heap.size+1:=World.size_alloc ..;generalize w.alloc (.cells #[ah 2,ah n] 139)=W0 at *;obtain⟨ab,fS⟩:∃ab,ab=w.heap.size:=⟨_,rfl⟩;rw[←fS]at wT hsz ⊢;have lj:=aq (w.heap.size≤ab) (Nat.le_of_eq fS.symm);clear fS;have aK:af au W0 (W0.alloc (.cells (bW 0 false false) 136)):=(af.ai au W0).alloc _;have cy:=ae<|Box.fresh W0 136 (bW 0 false false);have dZ:=ae<|aK.ak wT id;have bc:=ae<|vf.trans aK;clear aK wT vf;generalize W0.alloc (.cells (bW 0 false false) 136)=W1 at *;rw[hsz]at cy;clear hsz;have dt:=ae (show w.heap.size≤ab+1 by have:=lj.out;omega);generalize ab+1=rb at *;have b8:=ae<|bc.ak HB id;have x2:=sv b8;have x3:=rj b8;have y1:aF W1 ab 1 n:=dZ.ag rfl;have fF:=ae<|zp (b:=(n:Int)) (uN b8 (HH.keep bc) HK HP);rw[vg.out]at fF;go_upto_region 8 with(go_at_call 78;refine fF.mono ?_;rintro e Wm ⟨rfl,hm⟩;have pA:=ae hm;clear hm);change Code.wp _ _ _ _ (Wm.alloc (.cells (bW 0 false true) 136));have bq:af au W1 (Wm.alloc (.cells (bW 0 false true) 136)):=pA.alloc _;have ks:=ae<|Box.fresh Wm 136 (bW 0 false true);have ej:=ae<|bq.ak cy id;have gj:=ae<|bq.ak dZ id;have hG:=ae<|bq.ak b8 id;have bI:=ae<|bc.trans bq;have eB:=aq (w.heap.size≤Wm.heap.size) ((bc.trans pA).size);clear bq fF cy dZ b8 bc pA x2 x3 y1;generalize Wm.alloc (.cells (bW 0 false true) 136)=W3 at *;generalize Wm.heap.size=eb at *;have uI:=aq (¬RF j cb∧¬RF j ab∧¬RF j rb∧¬RF j eb) (⟨jV,HH.mK lj,HH.mK dt,HH.mK eB⟩);have HD:=ae<|fun(W:World) (ho:af au W3 W)=>HD W (HH.keep (bI.trans ho));have y0:aF W3 ab 0 2:=gj.ag rfl;go_upto_region 16 with fail;have k1:aM W3.drew cb 19 (aO j.mb):=sv hG;have k2:aF W3.drew ab 1 n:=gj.ag rfl;refine pG (fun w':World=>aM w' cb 19 (aO j.mb)∧aF w' ab 1 n) 6 fun aC=>?_
 refine bE [0,1,2,3,4,5] ?_;refine dE ?_;clear aC k1 k2 y0;have y0:aF W3.drew ab 0 2:=gj.ag rfl;go_upto_region 17 with(go_at_call 110;refine(HD W3.drew ((af.ai au W3).drew)).mono ?_;rintro e W4 ⟨rfl,h1,h2⟩;have jh:=ae h1;have cr:=ae<|(af.ai (RF j) W3).drew.trans h2;have y9:=h2.cell y0 uI.2.1;clear h1 h2);have ua:=ae<|cr.ak ks uI.2.2.2;have DG:=ae<|cr.ak ej uI.2.2.1;have ek:=ae<|(bI.mono fun _ hb=>hb.elim).trans cr;go_wp2_with (first|(refine iy (bW 0 false true) ua Tryz.underlying136 ?_)|(refine iP (bW 0 false true) DG (kf _ _ _) ?_))
 (try simp only[Exit.inBlock,Exit.then])
 refine bodyPost_ret (results_cell_row rfl _ _ rb _ (bW 0 false true) (0,0) _ rfl (DG.aw _) Tryz.underlying136 rfl aS) rfl ?_;have gM:af (az rb) W4 (W4.setRow rb (bW 0 false true)):=(af.ai (az rb) W4).aw (.inl rfl) _;exact⟨rfl,jh.Dv DG aE aE aE gM,ek.aw (.inr dt) _⟩
end
section
variable {j:iU}{P:cI}{s:cC}{w:World}
theorem Pg {n:Nat}(h:jg j P s w)(hI:uH P s)(hP:P.Ok)(h1:s.now≤1000000000)(hn:n<64):
 Calls Tryz.prog 109 #[aO j.mb,ah n] w (vZ j P s n w):=by
 by_cases hb:(n:Int)∈aI P s
 ·exact Ed h hI.ok hP h1 hn hb
 ·exact CI h hI hP h1 hn hb
end
section
variable {c:aQ}{hv lv dv:Value}{aP:Int}{w:World}{cb n:Nat}{j:iU}{P:cI}{s:cC}
theorem oM{P:Prop}(h:P:=by
 have rD:=ae<|Nc.ak ks uI.2.2.2;have Km:=ae<|Nc.ak ej uI.2.2.1;have Bf:=ae<|Nc.ak gj uI.2.1;have ek:=ae<|(bI.mono fun _ hb=>hb.elim).trans Nc;generalize uB:(cP P s n).2.1=v at *;generalize hgg:(cP P s n).2.2=g at *;generalize UJ:(cP P s n).1=s2 at *;refine iP (iJ v g 0) QY (qy _ _ _) ?_;go_upto_region 12 with fail;have je:af (az tb) W5 (W5.setRow tb (iJ v g 0)):=(af.ai (az tb) W5).aw (.inl rfl) _;have HT6:=ae<|QY.aw (iJ v g 0);have uw:=ae<|je.ak rD (rD.off QY aE);have xb:=ae<|je.ak Km (Km.off QY aE);have AP:=ae<|je.ak Bf (Bf.off QY aE);have kK:=ae<|fY.Dv QY aE aE aE je;have iu:=ae<|ek.aw (.inr Gn) (iJ v g 0);have HRE:=aq (rb≠eb) (VD);change Code.wp _ _ _ _ (W5.setRow tb (iJ v g 0));clear je QY rD Km Bf fY ek Nc;generalize W5.setRow tb (iJ v g 0)=W6 at *;have z7:aF W6 tb 0 v:=HT6.ag rfl;have e7:aF W6 eb 1 0:=uw.ag rfl;have f7:W6.frozen? ⟨eb,1,none⟩=false:=uw.free 1;go_upto_region 13 with fail;have je:af (az eb) W6 (W6.setCell ⟨eb,1,none⟩ (ah v)):=(af.ai (az eb) W6).setCell (p:=⟨eb,1,none⟩) (.inl (show az eb eb from rfl)) _;have Ff:=ae<|je.ak HT6 (HT6.off uw aE);have vk:=aq (Box _ eb 136 (bW v false was)) (uw.store 1 (ah v));have N3:=ae<|je.ak xb HRE;have Gw:=ae<|je.ak AP (AP.off uw aE);have w8:=ae<|kK.Dv uw aE aE aE je;have pz:=ae<|iu.setCell (p:=⟨eb,1,none⟩) (.inr eB) (ah v);change Code.wp _ _ _ _ (W6.setCell ⟨eb,1,none⟩ (ah v));clear je HT6 uw xb AP kK iu z7 e7 f7;generalize W6.setCell ⟨eb,1,none⟩ (ah v)=W7 at *;have z8:aM W7 tb 1 (.bool g):=Ff.ag rfl;have e8:aM W7 eb 2 (.bool false):=vk.ag rfl;have f8:W7.frozen? ⟨eb,2,none⟩=false:=vk.free 2;go_upto_region 14 with fail;have je:af (az eb) W7 (W7.setCell ⟨eb,2,none⟩ (.bool g)):=(af.ai (az eb) W7).setCell (p:=⟨eb,2,none⟩) (.inl (show az eb eb from rfl)) _;have Na:=ae<|je.ak Ff (Ff.off vk aE);have yY:=aq (Box _ eb 136 (bW v g was)) (vk.store 2 (.bool g));have Kl:=ae<|je.ak N3 HRE;have N5:=ae<|je.ak Gw (Gw.off vk aE);have JI:=ae<|w8.Dv vk aE aE aE je;have rA:=ae<|pz.setCell (p:=⟨eb,2,none⟩) (.inr eB) (.bool g);change Code.wp _ _ _ _ (W7.setCell ⟨eb,2,none⟩ (.bool g));clear je Ff vk N3 Gw w8 pz z8 e8 f8;generalize W7.setCell ⟨eb,2,none⟩ (.bool g)=W8 at *;have z9:aF W8 tb 2 0:=Na.ag rfl;have e9:aF W8 eb 4 0:=yY.ag rfl;have f9:W8.frozen? ⟨eb,4,none⟩=false:=yY.free 4;go_upto_region 15 with fail;have je:af (az eb) W8 (W8.setCell ⟨eb,4,none⟩ (ah 0)):=(af.ai (az eb) W8).setCell (p:=⟨eb,4,none⟩) (.inl (show az eb eb from rfl)) _;have Vh:=ae<|je.ak Na (Na.off yY aE);have HE9:=aq (Box _ eb 136 (bW v g was)) (yY.store 4 (ah 0));have SF:=ae<|je.ak Kl HRE;have HA9:=ae<|je.ak N5 (N5.off yY aE);have Fh:=ae<|JI.Dv yY aE aE aE je;have l5:=ae<|rA.setCell (p:=⟨eb,4,none⟩) (.inr eB) (ah 0)
 change Code.wp _ _ _ _ (W8.setCell ⟨eb,4,none⟩ (ah 0));clear je Na yY Kl N5 JI rA z9 e9 f9;generalize W8.setCell ⟨eb,4,none⟩ (ah 0)=W9 at *;have y0:aF W9 ab 0 1:=HA9.ag rfl;go_upto_region 17 with fail;go_wp2_with (first|(refine iy (bW v g was) HE9 Tryz.underlying136 ?_)|(refine iP (bW v g was) SF (kf _ _ _) ?_))
 (try simp only[Exit.inBlock,Exit.then])
 refine bodyPost_ret (results_cell_row rfl _ _ rb _ (bW v g was) (0,0) _ rfl (SF.aw _) Tryz.underlying136 rfl aS) rfl ?_;have gM:af (az rb) W9 (W9.setRow rb (bW v g was)):=(af.ai (az rb) W9).aw (.inl rfl) _;exact⟨rfl,Fh.Dv SF aE aE aE gM,l5.aw (.inr dt) _⟩):P:=h
theorem eQ{P:Prop}(h:P:=by
 exact⟨by first|exact aC.1|exact k1|exact((af.ai au _).alloc _).cell k1 id|exact((af.ai au _).alloc _).cell aC.1 id|assumption,by first|exact aC.2|exact k2|exact((af.ai au _).alloc _).cell k2 id|exact((af.ai au _).alloc _).cell aC.2 id|assumption⟩):P:=h
theorem Eg (hb:Box w cb 96 (kl c hv aP lv (aO j.mb) (.pointer none) dv))(jV:¬RF j cb)(h:jg j P s w)(bN:dJ P s)(hP:P.Ok)(hI:uH P s)(h1:s.now≤1000000000)(Oi:n<64):
 Calls Tryz.prog 77 #[aO cb,.agg #[ah 1,ah n]] w (S8 j P (cP P s n).1 (cP P s n).2.1 (cP P s n).2.2 (decide ((n:Int)∈aI P s)) w):=by
 have HB:=ae hb;have HH:=ae h;have HK:=ae bN;have HP:=ae hP;have HD:=ae<|fun(W:World) (hr:jg j P s W)=>Pg hr hI hP h1 Oi;obtain⟨was,j8⟩:∃was,was=decide ((n:Int)∈aI P s):=⟨_,rfl⟩;rw[←j8];have vg:=ae j8.symm;clear j8;have wT:=ae<|Box.fresh w 139 #[ah 1,ah n];have vf:=ae<|(af.ai au w).alloc (.cells #[ah 1,ah n] 139);clear hb h bN hP hI h1 Oi
 go_enter Tryz.func77,Tryz.ntmps77
 go_upto_region 1 with fail;change Code.wp _ _ _ _ ((w.alloc (.cells #[ah 1,ah n] 139)).alloc (.cells (bW 0 false false) 136));have hsz:(w.alloc (.cells #[ah 1,ah n] 139)).heap.size=w.heap.size+1:=World.size_alloc ..;generalize w.alloc (.cells #[ah 1,ah n] 139)=W0 at *;obtain⟨ab,fS⟩:∃ab,ab=w.heap.size:=⟨_,rfl⟩;rw[←fS]at wT hsz ⊢;have lj:=aq (w.heap.size≤ab) (Nat.le_of_eq fS.symm);clear fS;have aK:af au W0 (W0.alloc (.cells (bW 0 false false) 136)):=(af.ai au W0).alloc _;have cy:=ae<|Box.fresh W0 136 (bW 0 false false);have dZ:=ae<|aK.ak wT id;have bc:=ae<|vf.trans aK;clear aK wT vf;generalize W0.alloc (.cells (bW 0 false false) 136)=W1 at *;rw[hsz]at cy;clear hsz;have dt:=ae (show w.heap.size≤ab+1 by have:=lj.out;omega);generalize ab+1=rb at *;have b8:=ae<|bc.ak HB id;have x2:=sv b8;have x3:=rj b8;have y1:aF W1 ab 1 n:=dZ.ag rfl;have fF:=ae<|zp (b:=(n:Int)) (uN b8 (HH.keep bc) HK HP);rw[vg.out]at fF;go_upto_region 8 with(go_at_call 78;refine fF.mono ?_;rintro e Wm ⟨rfl,hm⟩;have pA:=ae hm;clear hm);change Code.wp _ _ _ _ (Wm.alloc (.cells (bW 0 false was) 136));have bq:af au W1 (Wm.alloc (.cells (bW 0 false was) 136)):=pA.alloc _;have ks:=ae<|Box.fresh Wm 136 (bW 0 false was);have ej:=ae<|bq.ak cy id;have gj:=ae<|bq.ak dZ id;have hG:=ae<|bq.ak b8 id;have bI:=ae<|bc.trans bq;have VD:=aq (rb≠Wm.heap.size) (Nat.ne_of_lt (pA.ak cy id).lt);have eB:=aq (w.heap.size≤Wm.heap.size) ((bc.trans pA).size);clear bq fF cy dZ b8 bc pA x2 x3 y1;generalize Wm.alloc (.cells (bW 0 false was) 136)=W3 at *;generalize Wm.heap.size=eb at *;have uI:=aq (¬RF j cb∧¬RF j ab∧¬RF j rb∧¬RF j eb) (⟨jV,HH.mK lj,HH.mK dt,HH.mK eB⟩);have HD:=ae<|fun(W:World) (ho:af au W3 W)=>HD W (HH.keep (bI.trans ho));have y0:aF W3 ab 0 1:=gj.ag rfl;go_upto_region 11 with fail;have k1:aM W3.drew cb 19 (aO j.mb):=sv hG;have k2:aF W3.drew ab 1 n:=gj.ag rfl;refine gg (fun w':World=>aM w' cb 19 (aO j.mb)∧aF w' ab 1 n) 8 ?_ ?_
 ·exact eQ
 intro aC;refine bE [0,1,2,3,4,5] ?_;refine kE (i:=6) (j:=7) rfl rfl aS (fun Kc hK=>?_) (fun Kc hK=>?_)
 ·go_simp;refine(HD W3.drew ((af.ai au W3).drew)).mono ?_;rintro e W4 ⟨rfl,h1,h2⟩;have jh:=ae h1;have cr:=ae h2;have k1:=h2.cell aC.1 uI.1;have k2:=h2.cell aC.2 uI.2.1;clear h1 h2;refine dy hK ?_ fun aC=>?_
  ·exact eQ
  clear hK;refine cX 7 fun Kc hK=>?_
  go_simp;refine dy hK ?_ fun aC=>?_
  ·exact eQ
  clear hK;refine dE ?_;have fW:af au W4 (W4.alloc (.cells (iJ 0 false 0) 186)):=(af.ai au W4).alloc _;have Nc:=aq (af (RF j) W3 (W4.alloc (.cells (iJ 0 false 0) 186))) (((af.ai (RF j) W3).drew.trans cr).cE fW);have QY:=ae<|Box.fresh W4 186 (iJ 0 false 0);have fY:=ae<|jh.keep fW;have Gn:=aq (w.heap.size≤W4.heap.size) (Nat.le_trans bI.size ((af.ai (RF j) W3).drew.trans cr).size);clear aC k1 k2 fW jh cr;change wpList _ _ _ _ _ (W4.alloc (.cells (iJ 0 false 0) 186));generalize W4.alloc (.cells (iJ 0 false 0) 186)=W5 at *;generalize W4.heap.size=tb at *;exact oM
 ·go_simp;refine dy hK ?_ fun aC=>?_
  ·exact eQ
  clear hK;refine cX 6 fun Kc hK=>?_
  go_simp;refine(HD (W3.drew.alloc (.cells (iJ 0 false 0) 186)) (((af.ai au W3).drew).alloc _)).mono ?_;rintro e W4 ⟨rfl,h1,h2⟩;have jh:=ae h1;have cr:=ae h2;have k1:=h2.cell aC.1 uI.1;have k2:=h2.cell aC.2 uI.2.1;clear h1 h2;refine dy hK ?_ fun aC=>?_
  ·exact eQ
  clear hK;refine dE ?_;have fW:af au W3 (W3.drew.alloc (.cells (iJ 0 false 0) 186)):=((af.ai au W3).drew).alloc _;have Nc:=aq (af (RF j) W3 W4) ((((af.ai (RF j) W3).drew).alloc _).trans cr);have Gn:=aq (w.heap.size≤W3.heap.size) (bI.size);have QY:=aq (Box W4 W3.heap.size 186 (iJ 0 false 0)) (cr.ak (Box.fresh W3.drew 186 (iJ 0 false 0)) (HH.mK Gn));have fY:=ae jh;clear aC k1 k2 fW jh cr;generalize W4=W5 at *;generalize W3.heap.size=tb at *;exact oM
end
def Gl (F:Nat→Prop)(cb:Nat):Nat→Prop:=fun k=>F k∨k=cb
def Bq {σ:Type}(R:σ→Value→World→Prop)(F:Nat→Prop)(c:aQ)(hv:Value)(aP:Int)(mp pp dv:Value)(cb:Nat)(s':σ)(v:Int)(g was:Bool)(w:World)(e:Ending)(w':World):Prop:=
 ∃A n m UD,e= .returned (.agg (cR (.slice A n m) v g was 0))∧R s' UD w'∧Box w' cb 96 (kl c hv aP UD mp pp dv)∧af (Gl F cb) w w'
structure ir (K:bj)(c:aQ)(k:Nat) where
 mp:Value
 pp:Value
 F:Nat→Prop
 B:Nat
 R:K.σ→Value→World→Prop
 Inv:K.σ→Prop
 inv:∀{i s w},K.R i s w→Inv s
 lt:∀{s lv w},R s lv w→B≤w.heap.size∧∀k,F k→k<B
 slc:∀{s lv w},R s lv w→∃A n m,lv= .slice A n m
 kN:∀{s lv w w'} {S:Nat→Prop},R s lv w→af S w w'→(∀k,F k→¬S k)→(∀k cs,S k→B≤k→¬Box w k 3 cs)→R s lv w'
 all:∀{s lv w cb hv dv},R s lv w→Inv s→Box w cb 96 (kl c hv ((k+1:Nat):Int) lv mp pp dv)→Calls Tryz.prog 25 #[aO cb] w (xS B (K.sp.all s) w)
 use:∀{s lv w cb hv dv b},R s lv w→Inv s→Box w cb 96 (kl c hv ((k+1:Nat):Int) lv mp pp dv)→¬F cb→b∈K.sp.all s→K.sp.jf s<da→
  Calls Tryz.prog 77 #[aO cb,.agg #[ah 0,ah b]] w (Bq R F c hv ((k+1:Nat):Int) mp pp dv cb (K.sp.use s b) 0 false true w)
 add:∀{s lv w cb hv dv b},R s lv w→Inv s→Box w cb 96 (kl c hv ((k+1:Nat):Int) lv mp pp dv)→¬F cb→0≤b→b<64→K.sp.takes b→K.sp.jf s<da→
  Calls Tryz.prog 77 #[aO cb,.agg #[ah 1,ah b]] w (Bq R F c hv ((k+1:Nat):Int) mp pp dv cb (K.sp.add s b).1 (K.sp.add s b).2.1 (K.sp.add s b).2.2 (decide (b∈K.sp.all s)) w)
 rem:∀{s lv w cb hv dv b},R s lv w→Inv s→Box w cb 96 (kl c hv ((k+1:Nat):Int) lv mp pp dv)→¬F cb→b∈K.sp.all s→
  Calls Tryz.prog 77 #[aO cb,.agg #[ah 2,ah b]] w (Bq R F c hv ((k+1:Nat):Int) mp pp dv cb (K.sp.rem s b) 0 false true w)
 takes:∀{s lv w cb hv dv} (b level:Int),R s lv w→Inv s→Box w cb 96 (kl c hv ((k+1:Nat):Int) lv mp pp dv)→
  Calls Tryz.prog 76 #[aO cb,ah b,ah level] w fun e w'=>e= .returned (.bool (cg c k b level))∧af au w w'
section
variable {c:aQ}{hv lv mp dv:Value}{w:World}{cb k:Nat}
theorem gq{P:Prop}(h:P:=by
 go_enter Tryz.func76,Tryz.ntmps76
 go_wp2;go_ret;exact⟨rfl,af.ai _ _⟩):P:=h
theorem sZ (b level:Int)(hb:Box w cb 96 (kl c hv ((k+1:Nat):Int) lv mp (.pointer none) dv))(hp:c.f 5≠2):
 Calls Tryz.prog 76 #[aO cb,ah b,ah level] w fun e w'=>e= .returned (.bool (cg c k b level))∧af au w w':=by
 have x2:aF w cb 2 (c.f 2):=kB hb aE;have x5:aF w cb 5 (c.f 5):=kB hb aE;have x17:=Q8 hb;have x20:=rj hb;unfold cg;rw[if_neg hp];clear hb hp;generalize c.f 2=n at *;generalize c.f 5=pl at *;generalize((k+1:Nat):Int)=tr at *
 by_cases h1:0≤b
 ·have ei:decide (0≤b)=true:=by simp[h1]
  by_cases h2:b<n
  ·have ez:decide (b<n)=true:=by simp[h2]
   rw[ei,ez];clear ei ez
   by_cases h3:pl=1
   ·by_cases h4:level=tr
    ·rw[show(true&&true&&(decide (pl≠1)||decide (level=tr)))=true by simp[h4]]
     go_enter Tryz.func76,Tryz.ntmps76
     go_wp2;go_ret;exact⟨by simp,af.ai _ _⟩
    ·rw[show(true&&true&&(decide (pl≠1)||decide (level=tr)))=false by simp[h3,h4]];have h4':(level==tr)=false:=by simpa using h4
     go_enter Tryz.func76,Tryz.ntmps76
     go_wp2;go_ret;exact⟨by simp[h4],af.ai _ _⟩
   ·rw[show(true&&true&&(decide (pl≠1)||decide (level=tr)))=true by simp[h3]];exact gq
  ·have ez:decide (b<n)=false:=by simp[h2]
   rw[ei,ez];clear ei ez;exact gq
 ·have ei:decide (0≤b)=false:=by simp[h1]
  rw[ei];clear ei;exact gq
theorem nW{P:Prop}(h:P:=by
 generalize c.f 2=n at *;exact gq):P:=h
theorem Ea {j:Az}{S:Nat→List Int}(b level:Int)(hb:Box w cb 96 (kl c hv ((k+1:Nat):Int) lv mp (aO j.pb) dv))(h:Df j c.h (fJ c.h (fm c)) S w)(hP:dp c)(hp:c.f 5=2)(hj:j.t=k):
 Calls Tryz.prog 76 #[aO cb,ah b,ah level] w fun e w'=>e= .returned (.bool (cg c k b level))∧af au w w':=by
 have x2:aF w cb 2 (c.f 2):=kB hb aE;have x5:aF w cb 5 (c.f 5):=kB hb aE;have x20:=rj hb;have hle:=hP.p2;unfold cg;rw[if_pos hp];rw[hp]at x5;clear hb hp
 by_cases h1:0≤b
 ·have ei:decide (0≤b)=true:=by simp[h1]
  by_cases h2:b<c.f 2
  ·have ez:decide (b<c.f 2)=true:=by simp[h2]
   have HP:=ae<|lS (b:=b) h hP.hs ⟨h1,aj⟩;rw[ei,ez,←hj];clear ei ez hj h hP hle;generalize bK c.h (fJ c.h (fm c)) b j.t=pv at *;generalize c.f 2=n at *
   go_enter Tryz.func76,Tryz.ntmps76
   go_wp2_with (go_at_call 105;refine HP.mono ?_;rintro e W1 ⟨rfl,m,rfl⟩);go_ret;exact⟨rfl,(af.ai _ _).drewN _⟩
  ·have ez:decide (b<c.f 2)=false:=by simp[h2]
   rw[ei,ez];clear ei ez hj h hP hle;exact nW
 ·have ei:decide (0≤b)=false:=by simp[h1]
  rw[ei];clear ei hj h hP hle;exact nW
end
theorem aA.kN {w w':World}{base:Nat}{v:Value}{l:List Int}{S:Nat→Prop}(h:aA 3 w base v l)(ho:af S w w')(hS:∀k cs,S k→base≤k→¬Box w k 3 cs):aA 3 w' base v l:=
 h.ar ho fun k hk e=>by
  obtain⟨c2,h2⟩:=h.gb hk;exact hS k c2 e (h.lt k hk).1 h2
theorem ir.off {K:bj}{c:aQ}{k:Nat}(o:ir K c k){s:K.σ}{lv:Value}{w w':World}{S:Nat→Prop}(h:o.R s lv w)(ho:af S w w')(hF:∀k,o.F k→¬S k)(hB:∀k,o.B≤k→k<w.heap.size→¬S k):o.R s lv w':=
 o.kN h ho hF fun k cs hk hB' hb=>hB k hB' hb.lt hk
theorem ir.jZ {K:bj}{c:aQ}{k:Nat}(o:ir K c k){s:K.σ}{lv:Value}{w w':World}{g:Nat}{t:TypeId}{cs:Array Value}(h:o.R s lv w)(hb:Box w g t cs)(ht:3≠t)(hF:¬o.F g)(ho:af (az g) w w'):o.R s lv w':=
 o.kN h ho (fun k hk e=>hF (show o.F g from(show k=g from e)▸hk)) fun k cs2 hk _ ez=>by
  obtain rfl:k=g:=hk;exact ht (ez.same hb).1
theorem ir.keep {K:bj}{c:aQ}{k:Nat}(o:ir K c k){s:K.σ}{lv:Value}{w w':World}(h:o.R s lv w)(ho:af au w w'):o.R s lv w':=o.off h ho (fun _ _=>id) fun _ _ _=>id
section
variable {c:aQ}{k B cb:Nat}{L:List Int}{hv lv dv:Value}{w:World}{b:Int}
def DD (B:Nat)(L:List Int)(lv:Value)(w:World):Prop:=aA 3 w B lv L∧B≤w.heap.size
theorem tC {L':List Int}{v:Int}{g was:Bool}{kd:Int}(hk:k<3)(hb:Box w cb 96 (kl c hv ((k+1:Nat):Int) lv (.pointer none) (.pointer none) dv))(h:DD B L lv w)
 (hD:∀w',af au w w'→Calls Tryz.prog 107 #[lv,ah (c.f (9+k)),.agg #[ah kd,ah b]] w' (rK B L' v g was w')):
 Calls Tryz.prog 77 #[aO cb,.agg #[ah kd,ah b]] w (Bq (DD B) (fun _=>False) c hv ((k+1:Nat):Int) (.pointer none) (.pointer none) dv cb L' v g was w):=
 (Pj hk hb h.1 hD).mono fun e w' ⟨A,n,m,h1,h2,h3,h4⟩=>⟨A,n,m,_,h1,⟨h2,Nat.le_trans h.2 h4.size⟩,h3,h4.mono fun k hk=>.inl (.inr hk)⟩
variable (hP:dp c)(hk:k<3)(hb:Box w cb 96 (kl c hv ((k+1:Nat):Int) lv (.pointer none) (.pointer none) dv))(h:DD B L lv w)(hI:L.Nodup∧L.length≤(c.f (9+k)).toNat)
include hP hk hb h hI
theorem Mf (hm:b∈L):
 Calls Tryz.prog 77 #[aO cb,.agg #[ah 0,ah b]] w (Bq (DD B) (fun _=>False) c hv ((k+1:Nat):Int) (.pointer none) (.pointer none) dv cb (b :: L.erase b) 0 false true w):=by
 have Sf:=hP.pc k hk;refine tC hk hb h fun w' ho=>?_
 have h5:=LR (cap:=(c.f (9+k)).toNat) (h.1.ar ho fun _ _=>id) (Nat.le_trans h.2 ho.size) (show L.length≤64 by have:=hI.2;omega) hm;rw[show(((c.f (9+k)).toNat:Nat):Int)=c.f (9+k) by omega,erase_filter hI.1]at h5;exact h5
theorem Mg (hm:b∈L):
 Calls Tryz.prog 77 #[aO cb,.agg #[ah 2,ah b]] w (Bq (DD B) (fun _=>False) c hv ((k+1:Nat):Int) (.pointer none) (.pointer none) dv cb (L.erase b) 0 false true w):=by
 have Sf:=hP.pc k hk;refine tC hk hb h fun w' ho=>?_
 have h5:=LP (b:=b) (cap:=(c.f (9+k)).toNat) (h.1.ar ho fun _ _=>id) (Nat.le_trans h.2 ho.size) (show L.length≤64 by have:=hI.2;omega);rw[show(((c.f (9+k)).toNat:Nat):Int)=c.f (9+k) by omega,erase_filter hI.1,decide_eq_true hm]at h5;exact h5
theorem Mh (h0:0≤b)(h1:b<64):
 Calls Tryz.prog 77 #[aO cb,.agg #[ah 1,ah b]] w (Bq (DD B) (fun _=>False) c hv ((k+1:Nat):Int) (.pointer none) (.pointer none) dv cb (bZ (c.f (9+k)).toNat L b).1 (bZ (c.f (9+k)).toNat L b).2.1 (bZ (c.f (9+k)).toNat L b).2.2 (decide (b∈L)) w):=by
 have Sf:=hP.pc k hk;refine tC hk hb h fun w' ho=>?_
 obtain⟨n,rfl⟩:=Int.eq_ofNat_of_zero_le h0
 by_cases hm:(n:Int)∈L
 ·have h5:=LQ (cap:=(c.f (9+k)).toNat) (h.1.ar ho fun _ _=>id) (Nat.le_trans h.2 ho.size) (show L.length≤64 by have:=hI.2;omega) hm;rw[show(((c.f (9+k)).toNat:Nat):Int)=c.f (9+k) by omega,erase_filter hI.1]at h5;rw[show bZ (c.f (9+k)).toNat L n=((n:Int) :: L.erase n,0,false) by unfold bZ;rw[if_pos hm],decide_eq_true hm];exact h5
 ·have h5:=LS (cap:=(c.f (9+k)).toNat) (n:=n) (h.1.ar ho fun _ _=>id) (Nat.le_trans h.2 ho.size) (by have:=hI.2;omega) hI.2 aj aj hI.1 aj hm;rw[show(((c.f (9+k)).toNat:Nat):Int)=c.f (9+k) by omega]at h5;rw[decide_eq_false hm];exact h5
end
noncomputable def YX {c:aQ}{k:Nat}(hk:k<3)(hP:dp c)(hp:c.f 5≠2)(B:Nat):ir (ux (c.f (9+k)).toNat) c k where
 mp:=.pointer none
 pp:=.pointer none
 F:=fun _=>False
 B:=B
 R:=DD B
 Inv:=fun(L:List Int)=>L.Nodup∧L.length≤(c.f (9+k)).toNat
 inv:=fun h=>⟨h.1.sp.nodup 0,h.2⟩
 lt:=fun h=>⟨h.2,fun _ h=>h.elim⟩
 slc:=fun h=>by obtain⟨A,m,e,_⟩:=h.1.shape;exact⟨A,_,m,e⟩
 kN:=fun h ho _ hB=>⟨h.1.kN ho hB,Nat.le_trans h.2 ho.size⟩
 all:=fun h _ hb=>L0 hb h.1
 use:=fun h hI hb _ hm _=>Mf hP hk hb h hI hm
 add:=fun h hI hb _ h0 h1 _ _=>Mh hP hk hb h hI h0 h1
 rem:=fun h hI hb _ hm=>Mg hP hk hb h hI hm
 takes:=fun b level _ _ hb=>sZ b level hb hp
theorem cW.kN {j:iU}{P:cI}{gv:Value}{qv:Nat→Value}{s:cC}{w w':World}{S:Nat→Prop}(h:cW j P gv qv s w)(ho:af S w w')(n1:∀k,RF j k→¬S k)(hS:∀k cs,S k→j.B≤k→¬Box w k 3 cs):cW j P gv qv s w':=
 ⟨ho.ak h.ak (n1 _ (.inl rfl)),h.row.ar ho fun k hk=>by
  have e:j.qb=k:=by injection hk
  exact n1 _ (.inr (.inl e.symm)),fun i hi=>(h.q i hi).kN ho hS,h.g.kN ho hS,ho.ak h.of (n1 _ (.inr (.inr (.inl rfl)))),ho.ak h.ex (n1 _ (.inr (.inr (.inr rfl)))),h.lt,h.ne,Nat.le_trans h.bs ho.size⟩
theorem cW.ltB {j:iU}{P:cI}{gv:Value}{qv:Nat→Value}{s:cC}{w:World}(h:cW j P gv qv s w):∀k,RF j k→k<j.B:=fun k hk=>by
 have:=h.lt;rcases hk with rfl|rfl|rfl|rfl<;>omega
noncomputable def XK {c:aQ}{k:Nat}(hk:k<3)(hP:dp c)(hp:c.f 5≠2)(j:iU):ir (UC (dH c k) (ic hP hk)) c k where
 mp:=aO j.mb
 pp:=.pointer none
 F:=RF j
 B:=j.B
 R:=fun s lv w=>lv=aT∧jg j (dH c k) s w
 Inv:=uH (dH c k)
 inv:=fun h=>h.2
 lt:=fun h=>by
  obtain⟨_,gv,qv,h⟩:=h;exact⟨h.bs,h.ltB⟩
 slc:=fun h=>⟨none,0,0,h.1⟩
 kN:=fun h ho hF hB=>by
  obtain⟨h0,gv,qv,h⟩:=h;exact⟨h0,gv,qv,h.kN ho hF hB⟩
 all:=fun {s lv w cb hv dv} h hI hb=>by
  have hle:j.B≤w.heap.size:=by obtain⟨_,gv,qv,h⟩:=h;exact h.bs
  exact(uN hb h.2 hI.ok (ic hP hk)).mono fun e w' ⟨v,h1,h2,h3⟩=>⟨v,h1,h2.low hle,h3⟩
 use:=fun {s lv w cb hv dv b} h hI hb jV hm cV=>by
  have hm:b∈aI (dH c k) s:=hm;have cV:s.now.toNat<da:=cV;unfold da at cV;obtain⟨n,rfl⟩:=Int.eq_ofNat_of_zero_le (iL hI.ok hm).1;obtain⟨rfl,h⟩:=h;exact(Ee hb jV h hI.ok (ic hP hk) aj hm).mono fun e w' ⟨h1,h2,h3⟩=>⟨none,0,0,_,h1,⟨rfl,h2⟩,h3.ak hb jV,h3.mono fun k hk=>.inl (.inl hk)⟩
 add:=fun {s lv w cb hv dv b} h hI hb jV h0 h1 _ cV=>by
  have cV:s.now.toNat<da:=cV;unfold da at cV;obtain⟨n,rfl⟩:=Int.eq_ofNat_of_zero_le h0;obtain⟨rfl,h⟩:=h;exact(Eg hb jV h hI.ok (ic hP hk) hI aj aj).mono fun e w' ⟨h1,h2,h3⟩=>⟨none,0,0,_,h1,⟨rfl,h2⟩,h3.ak hb jV,h3.mono fun k hk=>.inl (.inl hk)⟩
 rem:=fun {s lv w cb hv dv b} h hI hb jV hm=>by
  have hm:b∈aI (dH c k) s:=hm;obtain⟨n,rfl⟩:=Int.eq_ofNat_of_zero_le (iL hI.ok hm).1;obtain⟨rfl,h⟩:=h;exact(Ef hb jV h hI.ok (ic hP hk) hm).mono fun e w' ⟨h1,h2,h3⟩=>⟨none,0,0,_,h1,⟨rfl,h2⟩,h3.ak hb jV,h3.mono fun k hk=>.inl (.inl hk)⟩
 takes:=fun b level _ _ hb=>sZ b level hb hp
theorem gN.kN {j:Az}{l:List aH}{O:Nat→Nat→Int}{qv:Nat→Value}{S:Nat→List Int}{w w':World}{F:Nat→Prop}(h:gN j l O qv S w)(ho:af F w w')(n1:∀k,Si j l.length k→¬F k)(hS:∀k cs,F k→j.B≤k→¬Box w k 3 cs):gN j l O qv S w':=
 ⟨ho.ak h.ak (n1 _ (.inl rfl)),h.row.ar ho fun k hk=>n1 k (.inr (.inl hk)),fun i hi=>(h.q i hi).kN ho hS,
  h.bL.off ho fun h0 k o e=>n1 k (.inr (.inr (.inr ⟨h0,o,e⟩))),ho.ak h.prt (n1 _ (.inr (.inr (.inl rfl)))),h.t3,h.QF,h.r8,h.RV,h.Nw,Nat.le_trans h.bs ho.size⟩
theorem cz.Kq {l:List aH}{O:Nat→Nat→Int}{t:Nat}{S:Nat→List Int}(h:cz l O t S)(r:Nat):(S r).length≤64:=by
 have h1:=mC (L':=(List.range 64).map Int.ofNat) (h.nodup r) fun x hx=>by
  have:=h.at_ hx;exact List.mem_map.2 ⟨x.toNat,List.mem_range.2 aj,by show((x.toNat:Nat):Int)=x;omega⟩
 simpa using h1
theorem tB {c:aQ}{aP:Nat}{j:Az}{O:Nat→Nat→Int}{S S':Nat→List Int}{hv lv dv:Value}{kd b v:Int}{g was:Bool}{w:World}{cb:Nat}
 (hl:lv=aT) (h:Df j c.h O S w) (hb:Box w cb 96 (kl c hv aP lv (.pointer none) (aO j.pb) dv)) (jV:¬Si j c.h.length cb)
 (hD:∀w',Df j c.h O S w'→Calls Tryz.prog 106 #[aO j.pb,.agg #[ah kd,ah b]] w' (zc j c.h O S' v g was w')):
 Calls Tryz.prog 77 #[aO cb,.agg #[ah kd,ah b]] w
  (Bq (fun S lv w=>lv=aT∧Df j c.h O S w) (Si j c.h.length) c hv aP (.pointer none) (aO j.pb) dv cb S' v g was w):=by
 obtain⟨qv,hA⟩:=h;subst hl;have hn:¬aJ j.lv cb:=fun e=>jV (.inr (.inl e))
 exact(Ph hb hA.bs (fun k hk=>⟨hA.r8 k hk,fun e=>hn (e▸hk)⟩) fun w' ho=>hD w' ⟨qv,hA.keep ho⟩).mono fun e w' ⟨h1,h2,h3⟩=>⟨none,0,0,_,h1,⟨rfl,h2⟩,h3.ak hb hn,h3.mono fun k hk=>.inl (.inl (.inr (.inl hk)))⟩
noncomputable def Q7 {c:aQ}{k:Nat}(hk:k<3)(hP:dp c)(hp:c.f 5=2)(j:Az)(hj:j.t=k):ir (mq c k) c k where
 mp:=.pointer none
 pp:=aO j.pb
 F:=Si j c.h.length
 B:=j.B
 R:=fun S lv w=>lv=aT∧Df j c.h (fJ c.h (fm c)) S w
 Inv:=cz c.h (fJ c.h (fm c)) k
 inv:=fun h=>h.i
 lt:=fun h=>by
  obtain⟨_,qv,h⟩:=h;exact⟨h.bs,fun k hk=>h.ltF hk⟩
 slc:=fun h=>⟨none,0,0,h.1⟩
 kN:=fun h ho hF hB=>by
  obtain⟨h0,qv,h⟩:=h;exact⟨h0,qv,h.kN ho hF hB⟩
 all:=fun {s lv w cb hv dv} h hI hb=>by
  have hle:j.B≤w.heap.size:=by obtain⟨_,qv,h⟩:=h;exact h.bs
  have hI:cz c.h (fJ c.h (fm c)) j.t s:=by rw[hj];exact hI
  exact(LZ hb h.2 hI hP.hs).mono fun e w' ⟨v,h1,h2,h3⟩=>⟨v,h1,h2.low hle,h3⟩
 use:=fun {s lv w cb hv dv b} h hI hb jV hm cV=>by
  have hI:cz c.h (fJ c.h (fm c)) j.t s:=by rw[hj];exact hI
  have hm:b∈s (aZ c.h b):=(hI.mem b).1 hm;exact tB h.1 h.2 hb jV fun w' h'=>O9 h' hI hP.hs (hI.at_ hm).2.2 hm (hI.Kq _)
 add:=fun {s lv w cb hv dv b} h hI hb jV h0 h1 ht cV=>by
  have hI:cz c.h (fJ c.h (fm c)) j.t s:=by rw[hj];exact hI
  have ht:0<bK c.h (fJ c.h (fm c)) b j.t:=by rw[hj];exact ht
  refine tB h.1 h.2 hb jV fun w' h'=>?_
  show Calls _ _ _ _ (zc j c.h _ (cF c.h (fJ c.h (fm c)) k s b).1 (cF c.h (fJ c.h (fm c)) k s b).2.1 (cF c.h (fJ c.h (fm c)) k s b).2.2 (decide (b∈b9 s c.h.length)) w')
  rw[←hj]
  by_cases hm:b∈s (aZ c.h b)
  ·rw[decide_eq_true ((hI.mem b).2 hm)];have h5:=O8 h' hI hP.hs ⟨h0,h1⟩ hm ht (hI.Kq _);rw[show cF c.h (fJ c.h (fm c)) j.t s b=(bm (cu s b) (aZ c.h b) b,0,false) by unfold cF;rw[if_pos hm]];exact h5
  ·rw[decide_eq_false (fun e=>hm ((hI.mem b).1 e))]
   by_cases hr:((s (aZ c.h b)).length:Int)<bK c.h (fJ c.h (fm c)) b j.t
   ·exact Aa h' hI hP.hs ⟨h0,h1⟩ hm ht (hI.Kq _) hr
   ·exact Ab h' hI hP.hs ⟨h0,h1⟩ hm ht (hI.Kq _) aj
 rem:=fun {s lv w cb hv dv b} h hI hb jV hm=>by
  have hI:cz c.h (fJ c.h (fm c)) j.t s:=by rw[hj];exact hI
  have hm:b∈s (aZ c.h b):=(hI.mem b).1 hm;exact tB h.1 h.2 hb jV fun w' h'=>O6 h' hI hP.hs (hI.at_ hm).2.2 hm (hI.Kq _)
 takes:=fun b level h _ hb=>Ea b level hb h.2 hP hp hj
section
theorem Io {KO:bj}{i:KO.ι}{w:World}{cb mb:Nat}{c:aQ}{hv:Value}{aP:Nat}{s:KO.σ}{D:Int→Option ll}(h:bH KO i w cb mb c hv aP s D)
 {b:Int} {dl:List Int} {dv:Value} (iq:cH w dv dl) (yU:(decide (0≤b)&&decide (b<c.f 2))=false) (level:Int):
 Calls Tryz.prog 101 #[aO cb,.agg #[ah b,dv],ah level] w fun e w'=>e= .returned (.tuple #[.agg zF,.bool false,ah 9])∧af au w w':=by
 obtain⟨dA,dc,rfl,NJ,JA,iD⟩:=id iq;have uu:=fun W (hC:bH KO i W cb mb c hv aP s D)=>kx b hC
 rw[yU]at uu;have uu:=ae uu;have H:=ae h;have ei:=(Box.fresh w 87 #[ah b,.slice dA dl.length dc]).alloc (.cells zF 87);have ez:=Box.fresh (w.alloc (.cells #[ah b,.slice dA dl.length dc] 87)) 87 zF;rw[World.size_alloc]at ez;have kr:=ae ei;have w7:=ae ez;have bc:=ae<|((af.ai au w).alloc (.cells #[ah b,.slice dA dl.length dc] 87)).alloc (.cells zF 87);have H1:=ae<|H.keep bc;clear h iq iD ei ez NJ JA
 go_enter Tryz.func101,Tryz.ntmps101
 go_upto_region 1 with fail;change Code.wp _ _ _ _ ((w.alloc (.cells #[ah b,.slice dA dl.length dc] 87)).alloc (.cells zF 87));generalize(w.alloc (.cells #[ah b,.slice dA dl.length dc] 87)).alloc (.cells zF 87)=W1 at *;obtain⟨fb,iQ⟩:∃fb,fb=w.heap.size:=⟨_,rfl⟩;obtain⟨rb,km⟩:∃rb,rb=w.heap.size+1:=⟨_,rfl⟩;have lh:=ae (show w.heap.size≤rb by omega);rw[←km]at w7;rw[←iQ]at kr;rw[←km,←iQ];clear iQ km;have f0:aF W1 fb 0 b:=kr.ag rfl;go_wp2_with (first|(go_at_call 121;refine(uu W1 H1).mono ?_;rintro e W ⟨rfl,rfl⟩)|(refine iP zF w7 dm ?_))
 (try simp only[Exit.inBlock,Exit.then])
 refine bodyPost_ret (iX rfl _ _ rb _ zF (0,0) _ rfl (w7.aw _) Tryz.underlying87 rfl aS) rfl ?_;exact⟨rfl,bc.aw (.inr lh) _⟩
theorem L3 {KO:bj}{i:KO.ι}{w:World}{cb mb:Nat}{c:aQ}{hv:Value}{aP:Nat}{s:KO.σ}{D:Int→Option ll}(h:bH KO i w cb mb c hv aP s D)
 {b:Int} {dl:List Int} {dv:Value} (iq:cH w dv dl) (yU:(decide (0≤b)&&decide (b<c.f 2))=true) (hl:(dl.length:Int)≠c.f 3) (level:Int):
 Calls Tryz.prog 101 #[aO cb,.agg #[ah b,dv],ah level] w fun e w'=>e= .returned (.tuple #[.agg zF,.bool false,ah 10])∧af au w w':=by
 obtain⟨dA,dc,rfl,NJ,JA,iD⟩:=id iq;have uu:=fun W (hC:bH KO i W cb mb c hv aP s D)=>kx b hC
 rw[yU]at uu;have uu:=ae uu;generalize hz:c.f 3=sz at *;have HZ:=ae hz;clear hz;have hne:((dl.length:Int) != sz)=true:=by simpa using hl
 clear hl;have H:=ae h;have ei:=(Box.fresh w 87 #[ah b,.slice dA dl.length dc]).alloc (.cells zF 87);have ez:=Box.fresh (w.alloc (.cells #[ah b,.slice dA dl.length dc] 87)) 87 zF;rw[World.size_alloc]at ez;have kr:=ae ei;have w7:=ae ez;have bc:=ae<|((af.ai au w).alloc (.cells #[ah b,.slice dA dl.length dc] 87)).alloc (.cells zF 87);have H1:=ae<|H.keep bc;clear h iq iD ei ez NJ JA
 go_enter Tryz.func101,Tryz.ntmps101
 go_upto_region 1 with fail;change Code.wp _ _ _ _ ((w.alloc (.cells #[ah b,.slice dA dl.length dc] 87)).alloc (.cells zF 87));generalize(w.alloc (.cells #[ah b,.slice dA dl.length dc] 87)).alloc (.cells zF 87)=W1 at *;obtain⟨fb,iQ⟩:∃fb,fb=w.heap.size:=⟨_,rfl⟩;obtain⟨rb,km⟩:∃rb,rb=w.heap.size+1:=⟨_,rfl⟩;have lh:=ae (show w.heap.size≤rb by omega);rw[←km]at w7;rw[←iQ]at kr;rw[←km,←iQ];clear iQ km;have f0:aF W1 fb 0 b:=kr.ag rfl;have f1:aM W1 fb 1 (.slice dA dl.length dc):=kr.ag rfl;have s3:aF W1 cb 3 sz:=by rw[←HZ.out];exact H1.ak.ag (xQ _ _ _ _ _ _ aE)
 go_upto_region 5 with(go_at_call 121;refine(uu W1 H1).mono ?_;rintro e W ⟨rfl,rfl⟩);refine gg (fun w':World=>w'=W1.drew) 9 ?_ ?_
 ·rfl
 intro aC;refine bE [0,1,2,3,4,5,6,7,8] ?_;refine dE ?_;clear aC uu;have lE:=aq (Box W1.drew fb 87 #[ah b,.slice dA dl.length dc]) (kr);have uW:=aq (Box W1.drew rb 87 zF) (w7);have bu:=ae bc.drew;have H2:=aq (bH KO i W1.drew cb mb c hv aP s D) (H1.keep ((af.ai au W1).drew));clear f0 f1 s3 H1 kr w7 bc;generalize W1.drew=W2 at *;go_wp2_with (refine iP zF uW dm ?_)
 (try simp only[Exit.inBlock,Exit.then])
 refine bodyPost_ret (iX rfl _ _ rb _ zF (0,0) _ rfl (uW.aw _) Tryz.underlying87 rfl aS) rfl ?_;exact⟨rfl,bu.aw (.inr lh) _⟩
theorem Ip {KO:bj}{i:KO.ι}{w:World}{cb mb:Nat}{c:aQ}{hv:Value}{aP:Nat}{s:KO.σ}{D:Int→Option ll}(h:bH KO i w cb mb c hv aP s D)
 {b:Int} {dl:List Int} {dv:Value} (iq:cH w dv dl) (yU:(decide (0≤b)&&decide (b<c.f 2))=true) (hl:(dl.length:Int)=c.f 3) (level:Int)
 (HT:∀w',bH KO i w' cb mb c hv aP s D→Calls Tryz.prog 98 #[aO cb,ah b,ah level] w' fun e ky=>e= .returned (.bool false)∧af au w' ky):
 Calls Tryz.prog 101 #[aO cb,.agg #[ah b,dv],ah level] w fun e w'=>e= .returned (.tuple #[.agg zF,.bool false,ah 5])∧af au w w':=by
 obtain⟨dA,dc,rfl,NJ,JA,iD⟩:=id iq;have uu:=fun W (hC:bH KO i W cb mb c hv aP s D)=>kx b hC
 rw[yU]at uu;have uu:=ae uu;generalize hz:c.f 3=sz at *;have HZ:=ae hz;clear hz;have pF:=ae HT;clear HT;have hne:((dl.length:Int) != sz)=false:=by simpa using hl
 clear hl;have H:=ae h;have ei:=(Box.fresh w 87 #[ah b,.slice dA dl.length dc]).alloc (.cells zF 87);have ez:=Box.fresh (w.alloc (.cells #[ah b,.slice dA dl.length dc] 87)) 87 zF;rw[World.size_alloc]at ez;have kr:=ae ei;have w7:=ae ez;have bc:=ae<|((af.ai au w).alloc (.cells #[ah b,.slice dA dl.length dc] 87)).alloc (.cells zF 87);have H1:=ae<|H.keep bc;clear h iq iD ei ez NJ JA
 go_enter Tryz.func101,Tryz.ntmps101
 go_upto_region 1 with fail;change Code.wp _ _ _ _ ((w.alloc (.cells #[ah b,.slice dA dl.length dc] 87)).alloc (.cells zF 87));generalize(w.alloc (.cells #[ah b,.slice dA dl.length dc] 87)).alloc (.cells zF 87)=W1 at *;obtain⟨fb,iQ⟩:∃fb,fb=w.heap.size:=⟨_,rfl⟩;obtain⟨rb,km⟩:∃rb,rb=w.heap.size+1:=⟨_,rfl⟩;have lh:=ae (show w.heap.size≤rb by omega);rw[←km]at w7;rw[←iQ]at kr;rw[←km,←iQ];clear iQ km;have f0:aF W1 fb 0 b:=kr.ag rfl;have f1:aM W1 fb 1 (.slice dA dl.length dc):=kr.ag rfl;have s3:aF W1 cb 3 sz:=by rw[←HZ.out];exact H1.ak.ag (xQ _ _ _ _ _ _ aE)
 go_upto_region 5 with(go_at_call 121;refine(uu W1 H1).mono ?_;rintro e W ⟨rfl,rfl⟩);refine gg (fun w':World=>w'=W1.drew) 9 ?_ ?_
 ·rfl
 intro aC;refine bE [0,1,2,3,4,5,6,7,8] ?_;refine dE ?_;clear aC uu;go_upto_region 7 with fail;have lE:=aq (Box W1.drew fb 87 #[ah b,.slice dA dl.length dc]) (kr);have uW:=aq (Box W1.drew rb 87 zF) (w7);have bu:=ae bc.drew;have H2:=aq (bH KO i W1.drew cb mb c hv aP s D) (H1.keep ((af.ai au W1).drew));clear f0 f1 s3 H1 kr w7 bc;generalize W1.drew=W2 at *;have f0:aF W2 fb 0 b:=lE.ag rfl;go_upto_region 8 with(go_at_call 98;refine(pF W2 H2).mono ?_;rintro e W3 ⟨rfl,bV⟩);have wZ:=ae<|bV.ak uW id;have bI:=ae<|bu.trans bV;clear bV;go_wp2_with (refine iP zF wZ dm ?_)
 (try simp only[Exit.inBlock,Exit.then])
 refine bodyPost_ret (iX rfl _ _ rb _ zF (0,0) _ rfl (wZ.aw _) Tryz.underlying87 rfl aS) rfl ?_;exact⟨rfl,bI.aw (.inr lh) _⟩
end
def pT (c:aQ)(b:Int):Bool:=decide (0≤b)&&decide (b<c.f 2)
def dF (c:aQ)(k:Nat)(b:Int)(n:Nat)(level:Int):Int:=if pT c b=false then 9 else if(n:Int)≠c.f 3 then 10 else if cg c k b level=false then 5 else 0
theorem xV {c:aQ}{k:Nat}{b level:Int}(h:cg c k b level=true):pT c b=true:=by
 unfold cg at h;simp only[Bool.and_eq_true]at h;unfold pT;simp[h.1]
theorem ki {c:aQ}{k:Nat}{b:Int}{n:Nat}{level:Int}(h:dF c k b n level=0):cg c k b level=true∧(n:Int)=c.f 3∧0≤b∧b<c.f 2:=by
 unfold dF at h
 split at h
 ·cases h
 ·rename_i h1
  split at h
  ·cases h
  ·rename_i h2
   split at h
   ·cases h
   ·rename_i h3
    have h3:cg c k b level=true:=by simpa using h3
    have h4:=xV h3;unfold pT at h4;simp only[Bool.and_eq_true,decide_eq_true_eq]at h4;exact⟨h3,aj,h4.1,h4.2⟩
section
variable {c:aQ}{k:Nat}{hP:dp c}{hk:k<3}{i:(bg c k hP hk).ι}{w:World}{cb mb:Nat}{hv:Value}{s:(bg c k hP hk).σ}{D:Int→Option ll}{b:Int}{dl:List Int}{dv:Value}
theorem CK (h:bH (bg c k hP hk) i w cb mb c hv (k+1) s D)(iq:cH w dv dl)(level:Int)(hc:dF c k b dl.length level≠0):
 Calls Tryz.prog 101 #[aO cb,.agg #[ah b,dv],ah level] w fun e w'=>e= .returned (.tuple #[.agg zF,.bool false,ah (dF c k b dl.length level)])∧af au w w':=by
 unfold dF at *
 by_cases h1:pT c b=false
 ·rw[if_pos h1]at *;exact Io h iq h1 level
 ·rw[if_neg h1]at *;have h1:pT c b=true:=by simpa using h1
  by_cases h2:(dl.length:Int)≠c.f 3
  ·rw[if_pos h2]at *;exact L3 h iq h1 h2 level
  ·rw[if_neg h2]at *
   by_cases h3:cg c k b level=false
   ·rw[if_pos h3]at *;exact Ip h iq h1 aj level fun w' h'=>by
     have:=tz b level h';rw[h3]at this;exact this
   ·rw[if_neg h3]at hc;exact absurd rfl hc
theorem L4 (h:bH (bg c k hP hk) i w cb mb c hv (k+1) s D)(iq:cH w dv dl)(Ay:∀j,aJ dv j→¬(bg c k hP hk).F i j∧j≠mb)(level:Int)(hc:dF c k b dl.length level=0)(cV:(bg c k hP hk).sp.jf s<da):
 Calls Tryz.prog 101 #[aO cb,.agg #[ah b,dv],ah level] w (uR (bg c k hP hk) i cb mb c hv (k+1) s D b dl w):=by
 obtain⟨h1,h2,h3,h4⟩:=ki hc;exact F4 h iq Ay h3 h4 h2 level (fun w' h'=>by
  have:=tz b level h';rw[h1]at this;exact this) (xX h1) cV
end
def kA (w:World)(v:Value)(l:List Int):Prop:=Row 5 w v (bytes l)∧l.length≤1000000
theorem qD (l:List Int):(bytes l).length=l.length:=List.length_map ..
theorem kA.sa {w:World}{v:Value}{l:List Int}(h:kA w v l):cH w v l:=Row.sa h.1 (by have:=h.2;omega)
theorem kA.ar {S:Nat→Prop}{w w':World}{v:Value}{l:List Int}(h:kA w v l)(ho:af S w w')(hn:∀k,aJ v k→¬S k):kA w' v l:=⟨h.1.ar ho hn,h.2⟩
theorem kA.keep {w w':World}{v:Value}{l:List Int}(h:kA w v l)(ho:af au w w'):kA w' v l:=h.ar ho fun _ _=>id
theorem kA.shape {w:World}{v:Value}{l:List Int}(h:kA w v l):∃A c,v= .slice A l.length c:=by
 obtain⟨A,c,e,_⟩:=h.1.shape;exact⟨A,c,by rw[e];simp⟩
theorem kA.nil (w:World):kA w aT []:=⟨Row.lJ _ _,fH _⟩
structure A9 where
 cb:Nat
 db:Nat
 dc:Nat
 hv:Value
def td {K:bj}{c:aQ}{k:Nat}(o:ir K c k)(i:A9):Nat→Prop:=fun k=>o.F k∨k=i.cb∨k=i.db
structure fZ {K:bj}{c:aQ}{k:Nat}(o:ir K c k)(i:A9)(s:K.σ)(lv:Value)(dv:Nat→Value)(Dr:Nat→List Int)(w:World):Prop where
 ord:o.R s lv w
 ak:Box w i.cb 96 (kl c i.hv ((k+1:Nat):Int) lv o.mp o.pp (bp i.db 32 i.dc))
 row:Row 35 w (bp i.db 32 i.dc) (AQ 32 dv)
 kz:∀b,b<32→kA w (dv b) (Dr b)∧∀j,aJ (dv b) j→o.B≤j
 J3:i.cb<o.B∧¬o.F i.cb
 NM:i.db<o.B∧¬o.F i.db
 ne:i.cb≠i.db
 right:dp c
def qP {K:bj}{c:aQ}{k:Nat}(o:ir K c k)(i:A9)(s:K.σ)(Dr:Nat→List Int)(w:World):Prop:=∃lv dv,fZ o i s lv dv Dr w
section
variable {K:bj}{c:aQ}{k:Nat}{o:ir K c k}{i:A9}{s:K.σ}{lv:Value}{dv:Nat→Value}{Dr:Nat→List Int}{w w':World}{S:Nat→Prop}
theorem fZ.kN (h:fZ o i s lv dv Dr w)(ho:af S w w')(hF:∀k,td o i k→¬S k)(hS:∀k cs,S k→o.B≤k→¬Box w k 3 cs∧¬Box w k 5 cs):fZ o i s lv dv Dr w' where
 ord:=o.kN h.ord ho (fun k hk=>hF k (.inl hk)) fun k cs h1 h2=>(hS k cs h1 h2).1
 ak:=ho.ak h.ak (hF _ (.inr (.inl rfl)))
 row:=h.row.ar ho fun k hk=>hF k (.inr (.inr (aD.1 hk).symm))
 kz:=fun b hb=>⟨(h.kz b hb).1.ar ho fun k hk e=>by
  obtain⟨cs,h2⟩:=(h.kz b hb).1.1.ak hk;exact(hS k cs e ((h.kz b hb).2 k hk)).2 h2,(h.kz b hb).2⟩
 J3:=h.J3
 NM:=h.NM
 ne:=h.ne
 right:=h.right
theorem fZ.keep (h:fZ o i s lv dv Dr w)(ho:af au w w'):fZ o i s lv dv Dr w':=h.kN ho (fun _ _=>id) fun _ _ h=>h.elim
theorem fZ.bs (h:fZ o i s lv dv Dr w):o.B≤w.heap.size:=(o.lt h.ord).1
theorem fZ.RW (h:fZ o i s lv dv Dr w){j:Nat}(hj:td o i j):j<o.B:=by
 rcases hj with hj|rfl|rfl
 ·exact(o.lt h.ord).2 j hj
 ·exact h.J3.1
 ·exact h.NM.1
theorem fZ.jZ (h:fZ o i s lv dv Dr w){g:Nat}{t:TypeId}{cs:Array Value}(hb:Box w g t cs)(h1:3≠t)(h2:5≠t)(hF:¬td o i g)(ho:af (az g) w w'):fZ o i s lv dv Dr w':=
 h.kN ho (fun k hk e=>hF (show td o i g from(show k=g from e)▸hk)) fun k cs2 hk _=>by
  obtain rfl:k=g:=hk;exact⟨fun ez=>h1 (ez.same hb).1,fun ez=>h2 (ez.same hb).1⟩
theorem fZ.Bj (h:fZ o i s lv dv Dr w){g:Nat}(hg:w.heap.size≤g):¬td o i g:=fun e=>by have:=h.RW e;have:=h.bs;omega
theorem qP.kN (h:qP o i s Dr w)(ho:af S w w')(hF:∀k,td o i k→¬S k)(hS:∀k cs,S k→o.B≤k→¬Box w k 3 cs∧¬Box w k 5 cs):qP o i s Dr w':=by
 obtain⟨lv,dv,h⟩:=h;exact⟨lv,dv,h.kN ho hF hS⟩
theorem qP.keep (h:qP o i s Dr w)(ho:af au w w'):qP o i s Dr w':=h.kN ho (fun _ _=>id) fun _ _ h=>h.elim
theorem qP.bs (h:qP o i s Dr w):o.B≤w.heap.size:=by
 obtain⟨lv,dv,h⟩:=h;exact h.bs
theorem qP.RW (h:qP o i s Dr w){j:Nat}(hj:td o i j):j<o.B:=by
 obtain⟨lv,dv,h⟩:=h;exact h.RW hj
theorem fZ.Vb (h:fZ o i s lv dv Dr w):aM w i.cb 21 (bp i.db 32 i.dc):=Y0 h.ak
theorem fZ.cd (h:fZ o i s lv dv Dr w){n:Nat}(hn:n<32):aM w i.db n (dv n)∧w.frozen? ⟨i.db,n,none⟩=false:=by
 obtain⟨g,cc,e,h1,h2⟩:=h.row.cell (DO 32 dv hn);injection e with e;injection e with e;injection e with e;subst e;exact⟨h1,h2⟩
theorem fZ.tg {s':K.σ}{UD:Value}(h:fZ o i s lv dv Dr w)(hR:o.R s' UD w')(hb:Box w' i.cb 96 (kl c i.hv ((k+1:Nat):Int) UD o.mp o.pp (bp i.db 32 i.dc)))(ho:af (Gl o.F i.cb) w w'):fZ o i s' UD dv Dr w' where
 ord:=hR
 ak:=hb
 row:=h.row.ar ho fun k hk e=>by
  have hk:=aD.1 hk;rcases e with e|e
  ·exact h.NM.2 (hk▸e)
  ·exact h.ne (by rw[hk,e])
 kz:=fun b ez=>⟨(h.kz b ez).1.ar ho fun k hk e=>by
  have h1:=(h.kz b ez).2 k hk;rcases e with e|e
  ·have:=(o.lt h.ord).2 k e;omega
  ·have:=h.J3.1;omega,(h.kz b ez).2⟩
 J3:=h.J3
 NM:=h.NM
 ne:=h.ne
 right:=h.right
def Zk (o:ir K c k)(i:A9)(s':K.σ)(Dr:Nat→List Int)(n:Nat)(w:World)(e:Ending)(w':World):Prop:=
 ∃v,e= .returned (.tuple #[v,.bool true])∧kA w' v (Dr n)∧(∀j,aJ v j→o.B≤j)∧qP o i s' Dr w'∧af (td o i) w w'
def T1 (o:ir K c k)(i:A9)(s':K.σ)(Dr:Nat→List Int)(n:Nat)(w:World)(e:Ending)(w':World):Prop:=
 ∃v,e= .returned (.tuple #[.agg #[ah n,v],.bool true])∧kA w' v (Dr n)∧(∀j,aJ v j→o.B≤j)∧qP o i s' Dr w'∧af (td o i) w w'
theorem Pk (h:qP o i s Dr w)(hI:o.Inv s):Calls Tryz.prog 25 #[aO i.cb] w (xS o.B (K.sp.all s) w):=by
 obtain⟨lv,dv,h⟩:=h;exact o.all h.ord hI h.ak
theorem uM {b:Int}(h:qP o i s Dr w)(hI:o.Inv s):Calls Tryz.prog 78 #[aO i.cb,ah b] w fun e w'=>e= .returned (.bool (decide (b∈K.sp.all s)))∧af au w w':=
 zp (Pk h hI)
theorem tF (b level:Int)(h:qP o i s Dr w)(hI:o.Inv s):Calls Tryz.prog 76 #[aO i.cb,ah b,ah level] w fun e w'=>e= .returned (.bool (cg c k b level))∧af au w w':=by
 obtain⟨lv,dv,h⟩:=h;exact o.takes b level h.ord hI h.ak
theorem Gl.Nu {j:Nat}(h:Gl o.F i.cb j):td o i j:=Or.elim h .inl fun h=>.inr (.inl h)
end
section
variable {K:bj}{c:aQ}{k:Nat}{o:ir K c k}{i:A9}{s:K.σ}{Dr:Nat→List Int}{w:World}
theorem Uj {b:Int}(h:qP o i s Dr w)(hI:o.Inv s)(hb:b∉K.sp.all s):
 Calls Tryz.prog 73 #[aO i.cb,ah b] w fun e w'=>e= .returned (.tuple #[aT,.bool false])∧af au w w':=by
 have HH:=uM (b:=b) h hI;rw[decide_eq_false hb]at HH;have HH:=ae HH;clear h hI hb
 go_enter Tryz.func73,Tryz.ntmps73
 go_wp2_with (go_at_call 78;refine HH.mono ?_;rintro e W1 ⟨rfl,aK⟩);go_ret2;exact⟨rfl,aK⟩
theorem Uk {n:Nat}(h:qP o i s Dr w)(hI:o.Inv s)(hb:(n:Int)∈K.sp.all s)(hn:n<32)(cV:K.sp.jf s<da):
 Calls Tryz.prog 73 #[aO i.cb,ah n] w (Zk o i (K.sp.use s n) Dr n w):=by
 have HH:=uM (b:=(n:Int)) h hI;rw[decide_eq_true hb]at HH;have HH:=ae HH;obtain⟨lv,dv,h⟩:=h;have HU:=ae fun(W:World) (hC:fZ o i s lv dv Dr W)=>o.use hC.ord hI hC.ak hC.J3.2 hb cV
 have H:=ae h;have HN:=ae hn;clear h hI hb cV hn
 go_enter Tryz.func73,Tryz.ntmps73
 go_upto_region 3 with(go_at_call 78;refine HH.mono ?_;rintro e W1 ⟨rfl,aK⟩);have H1:=ae<|H.keep aK;have bc:=ae aK;clear aK H HH;go_upto_region 4 with(go_at_call 77;refine(HU W1 H1).mono ?_;rintro e W2 ⟨A,m1,m2,lv2,rfl,h1,h2,h3⟩);have H2:=ae<|H1.tg h1 h2 h3;have bu:=ae h3;clear h1 h2 h3;have x1:=H2.Vb;have x2:=(H2.cd HN).1;have HD:=ae<|H2.kz n HN;have yR:(0:Int)≤(n:Int):=Int.natCast_nonneg n;have qM:(n:Int)<32:=by have:=HN.out;omega
 go_wp2_with fail;go_ret2;exact⟨_,rfl,HD.1,HD.2,⟨_,_,H2⟩,(bc.mono fun _ h=>h.elim).trans (bu.mono fun j hj=>.inl (Gl.Nu hj))⟩
theorem RO {b:Int}(h:qP o i s Dr w)(hI:o.Inv s)(hb:b∉K.sp.all s):
 Calls Tryz.prog 47 #[aO i.cb,ah b] w fun e w'=>e= .returned (.tuple #[.agg zF,.bool false])∧af au w w':=by
 have HB:=ae<|Box.fresh w 87 zF;have HO:=ae<|(af.ai au w).alloc (.cells zF 87);have HH:=uM (b:=b) (h.keep HO) hI;rw[decide_eq_false hb]at HH;have HH:=ae HH;clear h hI hb
 go_enter Tryz.func47,Tryz.ntmps47
 go_upto_region 1 with fail;change Code.wp _ _ _ _ (w.alloc (.cells zF 87));generalize w.alloc (.cells zF 87)=W at *;obtain⟨rb,km⟩:∃rb,rb=w.heap.size:=⟨_,rfl⟩;have rB:=aq (w.heap.size≤rb) (Nat.le_of_eq km.symm);rw[←km]at HB ⊢;clear km;go_upto_region 2 with(go_at_call 78;refine HH.mono ?_;rintro e W1 ⟨rfl,aK⟩);have b8:=ae<|aK.ak HB id;have bc:=ae<|HO.trans aK;clear aK;go_wp2_with (refine iP zF b8 dm ?_);refine bodyPost_ret (kG rfl _ _ rb _ zF (0,0) _ rfl (b8.aw _) Tryz.underlying87 rfl aS) rfl ?_;exact⟨rfl,bc.aw (.inr rB) _⟩
theorem RP {n:Nat}(h:qP o i s Dr w)(hI:o.Inv s)(hb:(n:Int)∈K.sp.all s)(hn:n<32):
 Calls Tryz.prog 47 #[aO i.cb,ah n] w (T1 o i (K.sp.rem s n) Dr n w):=by
 have HB:=ae<|Box.fresh w 87 zF;have HO:=ae<|(af.ai au w).alloc (.cells zF 87);have HH:=uM (b:=(n:Int)) (h.keep HO) hI;rw[decide_eq_true hb]at HH;have HH:=ae HH;obtain⟨lv,dv,h⟩:=h;have HU:=ae fun(W:World) (hC:fZ o i s lv dv Dr W)=>o.rem hC.ord hI hC.ak hC.J3.2 hb
 have HW:=ae fun(g:Nat) (hg:w.heap.size≤g)=>h.Bj hg
 have H:=ae<|h.keep HO;have HN:=ae hn;clear h hI hb hn
 go_enter Tryz.func47,Tryz.ntmps47
 go_upto_region 1 with fail;change Code.wp _ _ _ _ (w.alloc (.cells zF 87));generalize w.alloc (.cells zF 87)=W at *;obtain⟨rb,km⟩:∃rb,rb=w.heap.size:=⟨_,rfl⟩;have rB:=aq (w.heap.size≤rb) (Nat.le_of_eq km.symm);rw[←km]at HB ⊢;clear km;go_upto_region 3 with(go_at_call 78;refine HH.mono ?_;rintro e W1 ⟨rfl,aK⟩);have H1:=ae<|H.keep aK;have b8:=ae<|aK.ak HB id;have bc:=ae<|HO.trans aK;clear aK H HH HB HO;go_upto_region 4 with(go_at_call 77;refine(HU W1 H1).mono ?_;rintro e W2 ⟨A,m1,m2,lv2,rfl,h1,h2,h3⟩);have H2:=ae<|H1.tg h1 h2 h3;have dG:=ae<|h3.ak b8 fun e=>HW rb rB (Gl.Nu e);have bu:=ae<|(bc.mono (S':=td o i) fun _ h=>h.elim).trans (h3.mono fun j hj=>.inl (Gl.Nu hj));clear h1 h2 h3;have x1:=H2.Vb;have x2:=(H2.cd HN).1;obtain⟨h5,h6⟩:=H2.kz n HN;obtain⟨A5,c5,e5⟩:=h5.shape;rw[e5]at h5 h6 x2;have HD:=ae h5;have HE:=ae h6;have yR:(0:Int)≤(n:Int):=Int.natCast_nonneg n;have qM:(n:Int)<32:=by have:=HN.out;omega
 clear h5 h6 e5;generalize(Dr n).length=len at *;go_wp2_with (refine iP #[ah n,.slice A5 len c5] dG aU ?_);refine bodyPost_ret (kG rfl _ _ rb _ #[ah n,.slice A5 len c5] (0,0) _ rfl (dG.aw _) Tryz.underlying87 rfl aS) rfl ?_;have gM:af (az rb) W2 (W2.setRow rb #[ah n,.slice A5 len c5]):=(af.ai (az rb) W2).aw (.inl (show az rb rb from rfl)) _;refine⟨_,rfl,HD.ar gM fun j hj e=>?_,HE,⟨_,_,H2.jZ dG aE aE (HW rb rB) gM⟩,bu.aw (.inr rB) _⟩;obtain⟨cs,hb⟩:=HD.1.ak hj;exact hb.off dG aE e
end
section
variable {K:bj}{c:aQ}{k:Nat}{o:ir K c k}{i:A9}{s:K.σ}{lv:Value}{dv:Nat→Value}{Dr:Nat→List Int}{w w':World}
theorem fZ.XJ (h:fZ o i s lv dv Dr w){n:Nat}(hn:n<32){v:Value}{dl:List Int}(hv:kA w v dl)(hB:∀j,aJ v j→o.B≤j):fZ o i s lv (ba dv n v) (ba Dr n dl) (w.setCell ⟨i.db,n,none⟩ v):=by
 have ho:af (az i.db) w (w.setCell ⟨i.db,n,none⟩ v):=(af.ai (az i.db) w).setCell (p:=⟨i.db,n,none⟩) (.inl (show az i.db i.db from rfl)) v;have hne:∀j,o.B≤j→¬az i.db j:=fun j hj e=>by have e:j=i.db:=e;have:=h.NM.1;omega
 refine⟨o.off h.ord ho (fun j hj e=>h.NM.2 ((show j=i.db from e)▸hj)) fun j hj _=>hne j hj,ho.ak h.ak h.ne,?_,fun b hb=>?_,h.J3,h.NM,h.ne,h.right⟩
 ·have:=h.row.store (i:=n) (by rw[sB];exact hn) v (aD.2 rfl);rwa [zI]at this
 ·unfold ba
  by_cases e:b=n
  ·rw[if_pos e,if_pos e];exact⟨hv.ar ho fun j hj=>hne j (hB j hj),hB⟩
  ·rw[if_neg e,if_neg e];exact⟨(h.kz b hb).1.ar ho fun j hj=>hne j ((h.kz b hb).2 j hj),(h.kz b hb).2⟩
theorem af.db {o:ir K c k}{i:A9}{n:Nat}{v:Value}:af (td o i) w (w.setCell ⟨i.db,n,none⟩ v):=(af.ai _ w).setCell (p:=⟨i.db,n,none⟩) (.inl (.inr (.inr rfl))) v
end
section
variable {K:bj}{c:aQ}{k:Nat}{o:ir K c k}{i:A9}{s:K.σ}{Dr:Nat→List Int}{w:World}
end
end Go.Proofs.YtpcfhbeakecihaaGreat

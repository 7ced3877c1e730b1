/- Lemmas. -/
import Derived.Test.YtchofaecncibjaaGreatM34
set_option linter.all false
set_option maxHeartbeats 20000000
set_option maxRecDepth 100000
namespace Go.Proofs.YtchofaecncibjaaGreat
section
open Go.ChangeShapes Go.RowKit Go.WideShapes
section
variable {Z:ZN}{w:World}{K:aZ}{c:aM}{a:cH K}{M:CM K.σ}
theorem su{P:Prop}(h:P:=by
 rw[Kx,wL.out,Int.toNat_natCast]at hm ht;obtain⟨nb,EM⟩:∃nb:Nat,(M.S k).blk=nb:=⟨(M.S k).blk.toNat,(Int.toNat_of_nonneg (KF k oH oF).1).symm⟩;rw[EM]at hm ht;have HM:=ae hm;have HT:=ae ht;have wD:=R7.out _ _ _ nb _ _ H7 (by rw[←EM];exact(KF k oH oF).2) adJ tx tJ;unfold fY at wD;have DN:=ae wD;have w1:aw W8 tb 1 nb:=by rw[←EM];exact GS.af rfl
 clear hm ht hn hg Kx EM wD;go_wp2_with (go_at_call 51;refine DN.mono ?_;rintro e ga ⟨u10,a10,rfl,Sk,aaH,aai⟩);go_ret;exact⟨u10,a10,rfl,by rw[HT.out];exact Sk.low fC.size,by rw[HM.out];exact aaH,HS7.trans aai⟩):P:=h
theorem b8{P:Prop}(h:P:=by rw[Da.out];decide):P:=h
theorem b7{P:Prop}(h:P:=by rw[HA.out];decide):P:=h
theorem qZ{P:Prop}(h:P:=by
 rw[hg]at y9;have hm:bd K.sp c (cN c) M m d=kE M m d:=by unfold bd;rw[if_neg hn,if_neg b8,if_neg b7,if_pos hg]
 have ht:bW K.sp c (cN c) M m d= []:=by unfold bW;rw[if_neg hn,if_neg b8,if_neg b7,if_pos hg]
 have HM:=ae hm;have HT:=ae ht;clear hm ht hn hg;go_wp2;go_ret;exact⟨_,_,rfl,by rw[HT.out];exact bg.nil _ _ _,by rw[HM.out];exact H7,HS7⟩):P:=h
theorem r7{P:Prop}(h:P:=by
 rw[←oW (cN c) _ oH.out];exact((((YJ.slots.store (k*5) (ah 0)).store (k*5+1) (ah 0)).store (k*5+2) (ah 0)).store (k*5+3) (.bool false)).store (k*5+4) aJ):P:=h
theorem jo{P:Prop}(h:P:=by
 rcases h9 with h9|h9
 ·exact .inl (by rw[nc.out];unfold aK;rw[←h9];exact hj)
 ·unfold aK at hj;rw[h9]at hj;injection hj with hj;exact .inr (Nat.le_of_eq hj)):P:=h
theorem qz{P:Prop}(h:P:=by
 rw[show j=a.l from e];exact qj):P:=h
theorem gQ{P:Prop}(h:P:=by rw[o2];exact o1):P:=h
theorem dR{P:Prop}(h:P:=by rw[hg];decide):P:=h
theorem Py (h:bm Z K c a M w){m:di}{v:Value}{d:List Int}(hd:cX Z w v d)(fK:M.up=true)(hb:eF m d.length=true)(h0:m.f 0=5)(ha:jP (cN c) M m=true)(ti:M.en.length≤1000000)(uV:∀b,b∈K.sp.all M.s→0≤b∧b<c.f 2)(cw:K.sp.eE M.s<bN)(vy:∀j,j<cN c→(M.S j).op≠0→0≤(M.S j).blk∧(M.S j).blk<c.f 2)
 (np:∀(a:cH K) (M:CM K.σ) (w:World) (n:Nat) (v:Value) (d:List Int),bm Z K c a M w→(n:Int)<c.f 2→cX Z w v d→(∀b,b∈K.sp.all M.s→0≤b∧b<c.f 2)→K.sp.eE M.s<bN→Calls Tryz.prog 51 #[aO a.l,.agg (fY n v)] w (Sd Z K c a M n d w)):
 Calls Tryz.prog 16 #[aO a.l,.agg (aP m v)] w (zV Z K c a M m d w):=by
 have hn:¬(M.up=false∨eF m d.length=false):=by rw[fK,hb];simp
 have hs:=iE hb;have Da:=ae h0;have Kb:(m.f 0==7)=false:=by rw[h0];decide
 have QY:(m.f 0==6)=false:=by rw[h0];decide
 have QZ:(m.f 0==5)=true:=by rw[h0];decide
 have HA:=ae ha;have Bx:=ae ti;have tx:=ae uV;have tJ:=ae cw;have KF:=ae vy;have KK:=ae hb;have R7:=ae np;clear ha ti uV cw vy np;obtain⟨A,q,rfl⟩:=hd.shape;have bu:ag az w (w.alloc (.cells (aP m (.slice A d.length q)) 37)):=(ag.aj az w).alloc _;have bL:=ae<|fun k (hk:b6 a k)=>h.kB hk;have iA:=ae<|fun k (hk:jG c a k)=>h.uU hk;have kZ:=ae h.zb;have HB:=ae<|Box.fresh w 37 (aP m (.slice A d.length q));have HO:=ae<|bu.mono (S':=b6 a) fun k hk=>hk.elim;have H:=ae<|h.keep bu;have HD:=ae<|hd.keep bu;have HR:=ae<|fun(w':World)=>kR m A d.length q w';rw[hb]at HR;have mX:=h.nn.2.1;clear h hd bu hn hb h0;unfold aP at HR
 go_enter Tryz.func16,Tryz.ntmps16
 go_upto_region 1 with fail;change Code.wp _ _ _ _ (w.alloc (.cells (aP m (.slice A d.length q)) 37));have fh:=aB (∀k,jG c a k→k≠w.heap.size) (fun k hk e=>by have:=iA.out k hk;omega);have kM:=aB (w.heap.size<(w.alloc (.cells (aP m (.slice A d.length q)) 37)).heap.size) bh;generalize w.alloc (.cells (aP m (.slice A d.length q)) 37)=W at *;obtain⟨mb,fW⟩:∃mb,mb=w.heap.size:=⟨_,rfl⟩;have pG:=aB (w.heap.size≤mb) (Nat.le_of_eq fW.symm);rw[←fW]at HB fh kM ⊢;clear fW;have x0:aw W mb 0 (m.f 0):=HB.af rfl;have x1:aw W mb 1 (m.f 1):=HB.af rfl;have x2:aw W mb 2 (m.f 2):=HB.af rfl;have x3:aw W mb 3 (m.f 3):=HB.af rfl;have x4:aw W mb 4 (m.f 4):=HB.af rfl;have x5:aw W mb 5 (m.f 5):=HB.af rfl;have x6:aw W mb 6 (m.f 6):=HB.af rfl;have x7:aw W mb 7 (m.f 7):=HB.af rfl;have x8:aw W mb 8 (m.f 8):=HB.af rfl;have x9:aE W mb 9 (.bool m.g):=HB.af rfl;have vx:aE W mb 10 (.slice A d.length q):=HB.af rfl;have kz:=H.yh;rw[fK]at kz;go_upto_region 3 with(go_at_call 49;refine(HR W).mono ?_;rintro e W1 ⟨rfl,aR⟩;have aX:=ae aR;clear aR);have y0:=aX.cell x0 id;have P6:=aX.cell vx id;have bU:=ae<|aX.aq HB id;have H1:=ae<|H.keep aX;have jL:=ae<|HD.keep aX;have bf:=ae<|HO.aC aX fun _ h=>h.elim;clear x0 x1 x2 x3 x4 x5 x6 x7 x8 x9 vx kz H HB HO HD;go_upto_region 14 with fail;clear y0 P6;have jZ:=H1.pw;have y2:aw W1 mb 2 (m.f 2):=bU.af rfl;have y4:aw W1 mb 4 (m.f 4):=bU.af rfl;have hA:=HA.out;unfold jP at hA;rw[Da.out]at hA;simp only[Bool.and_eq_true,decide_eq_true_eq]at hA;obtain⟨⟨⟨⟨_,s1⟩,o1⟩,o2⟩,w1⟩:=hA;obtain⟨k,hk⟩:∃k:Nat,m.f 2=k:=⟨(m.f 2).toNat,ao⟩;rw[hk]at s1;rw[hk,Int.toNat_natCast]at o2 w1;have w1:(M.S k).wr=false:=by rw[w1];decide
 have oJ:k<cN c:=ao;have pr:(k:Int)<cN c:=ao;have U5:decide (cN c≤k)=false:=decide_eq_false ao;rw[hk]at y2;have Qa:(m.f 4==0)=false:=by simpa using o1
 have P9:((M.S k).op != m.f 4)=false:=by simpa using o2
 obtain⟨Ad,nd,md,eD⟩:=H1.DD k oJ;obtain⟨z0,z1,z2,z3,z4⟩:=bJ H1.slots oJ eD;rw[w1]at z3;have Kf:=ae w1;have oF:=aB ((M.S k).op≠0) gQ;have RY:=aB (w.heap.size≤mb) (pG);have oH:=ae oJ;have wL:=ae hk;have Ky:=eD;clear o1 o2 w1 eD hk s1 hs;have d0:aE W1.drew a.l 19 (aU a.sb (cN c) (cN c)):=jZ;have d1:aw W1.drew mb 2 k:=y2;have d2:aw W1.drew mb 4 (m.f 4):=y4;have d3:aw W1.drew a.sb (k*5) ((M.S k).op):=z0;have d4:aE W1.drew a.sb (k*5+3) (.bool false):=z3;go_upto_region 14 with fail;refine dU (fun w':World=>aE w' a.l 19 (aU a.sb (cN c) (cN c))∧aw w' mb 2 k∧aw w' mb 4 (m.f 4)∧aw w' a.sb (k*5) ((M.S k).op)∧aE w' a.sb (k*5+3) (.bool false)) 39 fun aH=>?_
 refine bX [0,1,2,3,4,5,6,7,8,9,10,11,12,13,14,15,16,17,18,19,20,21,22,23,24,25,26,27,28,29,30,31,32,33,34,35,36,37,38] ?_;refine cG ?_;clear aH d0 d1 d2 d3 d4;have cO:=ae bU.drew;have H2:=ae<|H1.keep ((ag.aj az W1).drew);have tA:=ae<|jL.keep ((ag.aj az W1).drew);have bn:=ae bf.drew;have UL:=aB (cX Z W1.drew (.slice Ad nd md) (M.S k).ed) ((Ky▸H1.fw k oH).keep ((ag.aj az W1).drew));have eD:a.dv k= .slice Ad nd md:=Ky;clear Ky;clear H1 bU jL bf aX HR jZ y2 y4 z0 z1 z2 z3 z4 Kb QY QZ Qa P9;generalize W1.drew=W2 at *;obtain⟨z0,z1,z2,z3,z4⟩:=bJ H2.slots oH eD;rw[Kf.out]at z3;have jZ:aE W2.drew a.l 19 (aU a.sb (cN c) (cN c)):=H2.pw;have y2:aw W2.drew mb 2 k:=by rw[←wL.out];exact cO.af rfl
 have q0:W2.drew.cell? _=_:=z0;have q1:W2.drew.cell? _=_:=z1;have q2:W2.drew.cell? _=_:=z2;have q3:W2.drew.cell? _=_:=z3;have q4:W2.drew.cell? _=_:=z4;clear z0 z1 z2 z3 z4;go_upto_region 16 with fail;refine dU (fun w':World=>aE w' a.l 19 (aU a.sb (cN c) (cN c))∧aw w' mb 2 k∧aw w' a.sb (k*5) ((M.S k).op)∧aw w' a.sb (k*5+1) ((M.S k).blk)∧aw w' a.sb (k*5+2) ((M.S k).lev)∧aE w' a.sb (k*5+3) (.bool false)∧aE w' a.sb (k*5+4) (.slice Ad nd md)) 9 fun aH=>?_
 refine bX [0,1,2,3,4,5,6,7] ?_;refine cM 8 fun Kc hK=>?_
 go_simp;have uX:ag az W2 (W2.drew.alloc (.cells jY 92)):=((ag.aj az W2).drew).alloc _;have E9:=aB (Box (W2.drew.alloc (.cells jY 92)) W2.heap.size 92 jY) (Box.fresh W2.drew 92 jY);have H3:=ae<|H2.keep uX;have dM:=ae<|uX.aq cO id;have tf:=ae<|tA.keep uX;have RP:=ae<|UL.keep uX;have bK:=ae<|bn.aC uX fun _ h=>h.elim;have Kh:=aB (w.heap.size≤W2.heap.size∧W2.heap.size≠mb) (⟨bn.size,fun e=>by have:=cO.lt;omega⟩);have p19:=uX.cell (show W2.cell? _=_ from jZ) id;have p2:=uX.cell (show W2.cell? _=_ from y2) id;have p0:=uX.cell (show W2.cell? _=_ from q0) id;have p1:=uX.cell (show W2.cell? _=_ from q1) id;have p22:=uX.cell (show W2.cell? _=_ from q2) id;have p3:=uX.cell (show W2.cell? _=_ from q3) id;have p4:=uX.cell (show W2.cell? _=_ from q4) id;change Kc _ (W2.drew.alloc (.cells jY 92));clear uX H2 cO tA UL bn
 try rw[show W2.drew.heap.size=W2.heap.size from rfl]
 generalize W2.drew.alloc (.cells jY 92)=W3 at *;generalize W2.heap.size=tb at *;refine eh hK fun aH=>?_
 clear hK;refine cG ?_;clear aH jZ y2 q0 q1 q2 q3 q4 p19 p2 p0 p1 p22 p3 p4;refine fJ (sY ⟨(M.S k).op,(M.S k).blk,(M.S k).lev,false,[]⟩ Ad nd md) E9 (by simp[sY,Value.oneCell']) ?_;have j4:ag (ar tb) W3 (W3.setRow tb (sY ⟨(M.S k).op,(M.S k).blk,(M.S k).lev,false,[]⟩ Ad nd md)):=(ag.aj (ar tb) W3).au (.inl rfl) _;have Vh:Wr Z (ar tb) W3:=fun j hj e=>by rw[show j=tb from e];exact⟨Nat.le_trans kZ Kh.1,.inr fun cs hb=>(E9.off hb aD) rfl⟩
 have RJ:=ae<|E9.au (sY ⟨(M.S k).op,(M.S k).blk,(M.S k).lev,false,[]⟩ Ad nd md);have H4:=ae (H3.dC j4 Vh fun j hj e=>by have:=iA.out j hj;have:=Kh.1;have e:j=tb:=e;omega);have iM:=ae<|j4.aq dM fun e=>Kh.2 (show mb=tb from e).symm;have DM:=ae<|tf.aA j4 Vh;have RO:=ae<|RP.aA j4 Vh;have bM:=ae<|bK.aC j4 fun j hj=>.inr (by rw[show j=tb from hj];exact Kh.1);clear j4 Vh E9 H3 dM tf RP bK;generalize W3.setRow tb (sY ⟨(M.S k).op,(M.S k).blk,(M.S k).lev,false,[]⟩ Ad nd md)=W4 at *;have s9:=H4.pw;have x2:aw W4 mb 2 k:=by rw[←wL.out];exact iM.af rfl
 obtain⟨z0,z1,z2,z3,z4⟩:=bJ H4.slots oH eD;have g0:W4.frozen? ⟨a.sb,k*5,none⟩=false:=H4.slots.free _;have g1:W4.frozen? ⟨a.sb,k*5+1,none⟩=false:=H4.slots.free _;have g2:W4.frozen? ⟨a.sb,k*5+2,none⟩=false:=H4.slots.free _;have g3:W4.frozen? ⟨a.sb,k*5+3,none⟩=false:=H4.slots.free _;have g4:W4.frozen? ⟨a.sb,k*5+4,none⟩=false:=H4.slots.free _;have k19:aE W4.drew a.l 19 (aU a.sb (cN c) (cN c)):=s9;have k2:aw W4.drew mb 2 k:=x2;go_upto_region 17 with fail;refine dU (fun w':World=>aE w' a.l 19 (aU a.sb (cN c) (cN c))∧aw w' mb 2 k) 7 fun aH=>?_
 refine bX [0,1,2,3,4,5] ?_;refine cM 6 fun Kc hK=>?_
 go_simp;refine eh hK fun aH=>?_
 clear hK;refine cG ?_;clear aH k19 k2;have j5:=(ag.aj (ar a.sb) W4).drew;have d0:W4.drew.cell? _=_:=z0;have d1:W4.drew.cell? _=_:=z1;have d2:W4.drew.cell? _=_:=z2;have d3:W4.drew.cell? _=_:=z3;have d4:W4.drew.cell? _=_:=z4;have f0:W4.drew.frozen? _=false:=g0;have f1:W4.drew.frozen? _=false:=g1;have f2:W4.drew.frozen? _=false:=g2;have f3:W4.drew.frozen? _=false:=g3;have f4:W4.drew.frozen? _=false:=g4;have YJ:=ae<|H4.keep ((ag.aj az W4).drew);have Sa:=ae iM.drew;have R6:=ae<|DM.keep ((ag.aj az W4).drew);have Hw:=ae<|RO.keep ((ag.aj az W4).drew);have Hv:=ae RJ.drew;have RU:=ae bM.drew;clear z0 z1 z2 z3 z4 g0 g1 g2 g3 g4 s9 x2 H4 iM DM RO RJ bM j5;generalize W4.drew=W5 at *;go_upto_region 18 with fail;change Code.wp _ _ _ _ (((((W5.setCell ⟨a.sb,k*5,none⟩ (ah 0)).setCell ⟨a.sb,k*5+1,none⟩ (ah 0)).setCell ⟨a.sb,k*5+2,none⟩ (ah 0)).setCell ⟨a.sb,k*5+3,none⟩ (.bool false)).setCell ⟨a.sb,k*5+4,none⟩ aJ);have J8:Box (((((W5.setCell ⟨a.sb,k*5,none⟩ (ah 0)).setCell ⟨a.sb,k*5+1,none⟩ (ah 0)).setCell ⟨a.sb,k*5+2,none⟩ (ah 0)).setCell ⟨a.sb,k*5+3,none⟩ (.bool false)).setCell ⟨a.sb,k*5+4,none⟩ aJ) a.sb 92 (mC (cN c) (aI (fun j=>sR (M.S j) (a.dv j)) k (sR EH aJ))):=by
  exact r7
 have j6:ag (ar a.sb) W5 (((((W5.setCell ⟨a.sb,k*5,none⟩ (ah 0)).setCell ⟨a.sb,k*5+1,none⟩ (ah 0)).setCell ⟨a.sb,k*5+2,none⟩ (ah 0)).setCell ⟨a.sb,k*5+3,none⟩ (.bool false)).setCell ⟨a.sb,k*5+4,none⟩ aJ):=(((((ag.aj (ar a.sb) W5).setCell (p:=⟨a.sb,k*5,none⟩) (.inl (show ar a.sb a.sb from rfl)) _).setCell (p:=⟨a.sb,k*5+1,none⟩) (.inl (show ar a.sb a.sb from rfl)) _).setCell (p:=⟨a.sb,k*5+2,none⟩) (.inl (show ar a.sb a.sb from rfl)) _).setCell (p:=⟨a.sb,k*5+3,none⟩) (.inl (show ar a.sb a.sb from rfl)) _).setCell (p:=⟨a.sb,k*5+4,none⟩) (.inl (show ar a.sb a.sb from rfl)) _;have JK:∀j,ar a.sb j→b6 a j:=fun j hj=>by rw[show j=a.sb from hj];exact .inr (.inr (.inr (.inr (.inr (.inr (.inr (.inl rfl)))))))
 have NM:Wr Z (ar a.sb) W5:=fun j hj hs=>YJ.wr j hj (JK j hs)
 have H6:=ae<|YJ.vi j6 J8 (cX.nil _ _);have kI:=ae<|j6.aq Sa fun e=>fh a.sb (.inl (JK _ rfl)) (show mb=a.sb from e).symm;have yK:=ae (j6.aq Hv fun e=>by have:=bL.out a.sb (JK _ rfl);have:=Kh.1;have e:tb=a.sb:=e;omega);have oo:=ae<|R6.aA j6 NM;have Bp:=ae<|Hw.aA j6 NM;have cZ:=ae<|RU.aC j6 fun j hj=>.inl (JK j hj);clear J8 j6 JK NM d0 d1 d2 d3 d4 f0 f1 f2 f3 f4 YJ Sa R6 Hw Hv RU eD;generalize(((((W5.setCell ⟨a.sb,k*5,none⟩ (ah 0)).setCell ⟨a.sb,k*5+1,none⟩ (ah 0)).setCell ⟨a.sb,k*5+2,none⟩ (ah 0)).setCell ⟨a.sb,k*5+3,none⟩ (.bool false)).setCell ⟨a.sb,k*5+4,none⟩ aJ)=W6 at *;have y2:aw W6 mb 2 k:=by rw[←wL.out];exact kI.af rfl
 have y4:aw W6 mb 4 (m.f 4):=kI.af rfl;have y8:aw W6 mb 8 (m.f 8):=kI.af rfl;go_upto_region 19 with fail;change Code.wp _ _ _ _ (W6.alloc (.cells (FZ k (m.f 4) false (m.f 8) aJ) 58));have ug:ag az W6 (W6.alloc (.cells (FZ k (m.f 4) false (m.f 8) aJ) 58)):=(ag.aj az W6).alloc _;have Dh:=ae<|Box.fresh W6 58 (FZ k (m.f 4) false (m.f 8) aJ);have H7:=ae<|H6.keep ug;have sV:=ae<|ug.aq kI id;have GS:=ae<|ug.aq yK id;have vJ:=ae<|oo.keep ug;have Fb:=ae<|Bp.keep ug;have fC:=ae<|cZ.aC ug fun _ h=>h.elim;have tu:=aB (w.heap.size≤W6.heap.size∧W6.heap.size≠mb∧W6.heap.size≠tb) (⟨cZ.size,fun e=>by have:=kI.lt;omega,fun e=>by have:=yK.lt;omega⟩);clear ug y2 y4 y8 H6 kI yK oo Bp cZ;generalize W6.alloc (.cells (FZ k (m.f 4) false (m.f 8) aJ) 58)=W7 at *;generalize W6.heap.size=rb at *;have w4:aE W7 rb 4 aJ:=Dh.af rfl;have wM:=ae<|uJ _ d W7 vJ.1;go_upto_region 22 with(go_at_call 40;refine wM.mono ?_;rintro e W8 ⟨v8,rfl,hr8,eT,F2⟩;obtain⟨A8,c8,e8⟩:=OG hr8;subst e8;have Bf:=ae hr8;have HN8:=ae F2;have HJ8:=ae eT;have w4':=eT.cell w4 id;have w5':=(eT.aq Dh id).free 4;clear hr8 eT F2);clear wM;have H8:=ae<|H7.keep HJ8;have Ar:=ae<|HJ8.aq Dh id;have j9:ag (ar rb) W8 (W8.setCell ⟨rb,4,none⟩ (.slice A8 d.length c8)):=(ag.aj (ar rb) W8).setCell (p:=⟨rb,4,none⟩) (.inl (show ar rb rb from rfl)) _;have Vf:Wr Z (ar rb) W8:=fun j hj e=>by rw[show j=rb from e];exact⟨Nat.le_trans kZ tu.1,.inr fun cs hb=>(Ar.off hb aD) rfl⟩
 change Code.wp _ _ _ _ (W8.setCell ⟨rb,4,none⟩ (.slice A8 d.length c8));have H9:=ae (H8.dC j9 Vf fun j hj e=>by have:=iA.out j hj;have:=tu.1;have e:j=rb:=e;omega);have zL:=ae<|j9.aq (HJ8.aq sV id) fun e=>tu.2.1 (show mb=rb from e).symm;have RH:=ae<|j9.aq (HJ8.aq GS id) fun e=>tu.2.2 (show tb=rb from e).symm;have gW:=aB (Box (W8.setCell ⟨rb,4,none⟩ (.slice A8 d.length c8)) rb 58 (FZ k (m.f 4) false (m.f 8) (.slice A8 d.length c8))) (Ar.store 4 (.slice A8 d.length c8));have BA:=ae<|(vJ.keep HJ8).aA j9 Vf;have Br:=aB (cX Z (W8.setCell ⟨rb,4,none⟩ (.slice A8 d.length c8)) (.slice A8 d.length c8) d) ((cX.row Bf (by obtain⟨_,_,_,_,h9,_⟩:=vJ.1;exact h9) fun j hj e=>by have:=HN8.out j hj;have:=H7.AX j e;omega).aA j9 Vf);have kf:=ae<|(fC.aC HJ8 fun _ h=>h.elim).aC j9 fun j hj=>.inr (by rw[show j=rb from hj];exact tu.1);clear w4 w4' w5' j9 Vf H7 sV GS Dh vJ Fb fC HJ8 Bf HN8 H8 Ar;generalize W8.setCell ⟨rb,4,none⟩ (.slice A8 d.length c8)=W9 at *;obtain⟨Ae,ce,uh,_,_⟩:=H9.en.shape;have nc:=aB (a.en= .slice Ae M.en.length ce) (uh);obtain⟨X,e1,r1,d1⟩:=H9.en;have cQ:ag az W9 (W9.alloc (.cells (jD ⟨k,m.f 4,false,m.f 8,d⟩ (.slice A8 d.length c8)).toArray 58)).drew:=((ag.aj az W9).alloc _).drew;have CV:=aB (∀j u,(jD ⟨k,m.f 4,false,m.f 8,d⟩ (.slice A8 d.length c8))[j]? =some u→(W9.alloc (.cells (jD ⟨k,m.f 4,false,m.f 8,d⟩ (.slice A8 d.length c8)).toArray 58)).drew.cell? ((⟨W9.heap.size,0,none⟩:Addr).add j)=some u) (cV W9 _ _);have lH:=ae e1;have AW:=bk r1 cQ fun _ _=>id
 rw[uh]at AW;have b5:=ae AW;have JW:=ae<|fun p hp=>(d1 p hp).keep cQ;have H5:=ae<|H9.keep cQ;have RR:=ae<|Br.keep cQ;have R9:=ae<|BA.keep cQ;have iG:=ae<|cQ.aq zL id;have RI:=ae<|cQ.aq RH id;have RS:=ae<|cQ.aq gW id;have bM:=ae<|kf.aC cQ fun _ h=>h.elim;have tF:=aB (Z.B≤(W9.alloc (.cells (jD ⟨k,m.f 4,false,m.f 8,d⟩ (.slice A8 d.length c8)).toArray 58)).drew.heap.size) (Nat.le_trans H9.zb cQ.size);have Ke:=aB (X.length≤1000000) (by
  have h8:X.length=M.en.length:=by rw[←List.length_map (f:=Prod.fst),e1]
  have h9:=Bx.out;omega)
 have kk:aE W9.drew a.l 22 (.slice Ae M.en.length ce):=by rw[←nc.out];exact H9.Qn
 have k0:aw W9.drew rb 0 k:=gW.af rfl;have k1:aw W9.drew rb 1 (m.f 4):=gW.af rfl;have k2:aE W9.drew rb 2 (.bool false):=gW.af rfl;have k3:aw W9.drew rb 3 (m.f 8):=gW.af rfl;have k4:aE W9.drew rb 4 (.slice A8 d.length c8):=gW.af rfl;have Q3:=cQ.cell (show aE W9 a.l 22 (.slice Ae M.en.length ce)from kk) id;have e0:=cQ.cell (show W9.cell? _=_ from k0) id;have ZX:=cQ.cell (show W9.cell? _=_ from k1) id;have e2:=cQ.cell (show W9.cell? _=_ from k2) id;have e3:=cQ.cell (show W9.cell? _=_ from k3) id;have e4:=cQ.cell (show W9.cell? _=_ from k4) id;clear uh e1 r1 AW d1 cQ;go_upto_region 22 with fail;refine dU (fun w':World=>aE w' a.l 22 (.slice Ae M.en.length ce)∧aw w' rb 0 k∧aw w' rb 1 (m.f 4)∧aE w' rb 2 (.bool false)∧aw w' rb 3 (m.f 8)∧aE w' rb 4 (.slice A8 d.length c8)) 8 fun aH=>?_
 refine bX [0,1,2,3,4,5] ?_;refine cM 6 fun Kc hK=>?_
 go_simp;refine eh hK fun aH=>?_
 clear hK;refine cM 7 fun Kc hK=>?_
 refine nV _ (.tmp 120) (.tmp 122) 50 58 rfl yO rfl aD Tryz.underlying50 Z.B (.slice Ae M.en.length ce) X.length _ (jD ⟨k,m.f 4,false,m.f 8,d⟩ (.slice A8 d.length c8)) rfl b5 ⟨W9.heap.size,0,none⟩ rfl rfl CV eM bR bQ tF ?_;intro v6 W6 h6 bT h9;have EN:∀j,aK v6 j→aK a.en j∨(W9.alloc (.cells (jD ⟨k,m.f 4,false,m.f 8,d⟩ (.slice A8 d.length c8)).toArray 58)).drew.heap.size≤j:=fun j hj=>by
  exact jo
 have bT:ag (aK a.en) (W9.alloc (.cells (jD ⟨k,m.f 4,false,m.f 8,d⟩ (.slice A8 d.length c8)).toArray 58)).drew W6:=by rw[nc.out];exact bT
 have wG:Wr Z (aK a.en) (W9.alloc (.cells (jD ⟨k,m.f 4,false,m.f 8,d⟩ (.slice A8 d.length c8)).toArray 58)).drew:=fun j hj hs=>H5.wr j hj (.inr (.inr (.inr (.inr (.inr (.inr (.inr (.inr hs))))))))
 have pC:∀j,w.heap.size≤j→¬aK a.en j:=fun j hj e=>by have:=bL.out j (.inr (.inr (.inr (.inr (.inr (.inr (.inr (.inr e))))))));omega
 have tH:=ae<|dy.app (v:=v6) (⟨k,m.f 4,false,m.f 8,d⟩,(.slice A8 d.length c8)) h6 lH (fun p hp=>(JW p hp).aA bT wG) (RR.aA bT wG);have zI:=ae EN;have GD:=ae bT;have kI:=ae<|bT.aq iG (pC _ RY);have yK:=ae<|bT.aq RI (pC _ Kh.1);have yL:=ae<|bT.aq RS (pC _ tu.1);have R8:=ae<|R9.aA bT wG;have gX:=bT.aq H5.aq H5.ap.Zs;have kk:aE W6 a.l 22 (.slice Ae M.en.length ce):=by rw[←nc.out];exact gX.af rfl
 have k0:aw W6 rb 0 k:=yL.af rfl;have k1:aw W6 rb 1 (m.f 4):=yL.af rfl;have k2:aE W6 rb 2 (.bool false):=yL.af rfl;have k3:aw W6 rb 3 (m.f 8):=yL.af rfl;have k4:aE W6 rb 4 (.slice A8 d.length c8):=yL.af rfl;have f22:W6.frozen? ⟨a.l,22,none⟩=false:=gX.free _;obtain⟨A6,c6,e6,_,_⟩:=cz h6;subst e6;have xc:=ae gX;clear h6 bT h9 EN wG gX pC;refine eh hK fun aH=>?_
 clear hK;refine cG ?_;clear aH Q3 e0 ZX e2 e3 e4 k0 k1 k2 k3 k4;go_upto_region 23 with fail;change Code.wp _ _ _ _ (W6.setCell ⟨a.l,22,none⟩ (.slice A6 (X.length+1) c6));obtain⟨ER,dL⟩:=H5.pH GD tH zI;have j7:ag (ar a.l) W6 (W6.setCell ⟨a.l,22,none⟩ (.slice A6 (X.length+1) c6)):=(ag.aj (ar a.l) W6).setCell (p:=⟨a.l,22,none⟩) (.inl (show ar a.l a.l from rfl)) _;have wH:Wr Z (ar a.l) W6:=fun j _ e=>by
  exact qz
 have ZI:a.l<w.heap.size:=bL.out a.l (.inr (.inr (.inr (.inr (.inr (.inr (.inl rfl)))))));have H7:=aB (bm Z K c {a with dv:=aI a.dv k aJ,en:=.slice A6 (X.length+1) c6} (kE M m d) _) (by rw[←El (M:=M) (d:=d) wL.out Da.out];exact ER);have fC:=ae<|bM.trans dL;have sV:=ae (j7.aq kI fun e=>by have:=RY.out;have e:mb=a.l:=e;omega);have GS:=ae (j7.aq yK fun e=>by have:=Kh.1;have e:tb=a.l:=e;omega);have adJ:=ae<|R8.aA j7 wH;have CO:∀j,aK (.slice A6 (X.length+1) c6) j→aK a.en j∨w.heap.size≤j:=fun j hj=>(zI j hj).imp id fun e=>Nat.le_trans bM.size e
 have HS7:=aB (ib c a {a with dv:=aI a.dv k aJ,en:=.slice A6 (X.length+1) c6} w (W6.setCell ⟨a.l,22,none⟩ (.slice A6 (X.length+1) c6))) (⟨rfl,fun j hj=>xw (D:=a.D) CO hj,fun j hj=>AP (D:=a.D) CO hj,fC⟩);clear ER dL j7 wH CO ZI kk f22 GD tH zI xc bM RR R9 R8 H5 iG kI RI yK RS yL b5 JW CV tF H9 zL RH gW BA Br kf;generalize W6.setCell ⟨a.l,22,none⟩ (.slice A6 (X.length+1) c6)=W8 at *;have y9:aE W8 mb 9 (.bool m.g):=sV.af rfl;have hn:¬(M.up=false∨eF m d.length=false):=by rw[fK,KK.out];simp
 cases hg:m.g with
 |false=>
  exact qZ
 |true=>
  rw[hg]at y9;have hm:bd K.sp c (cN c) M m d=df K.sp c (kE M m d) (M.S (m.f 2).toNat).blk (sZ M m d):=by unfold bd;rw[if_neg hn,if_neg b8,if_neg b7,if_neg dR]
  have ht:bW K.sp c (cN c) M m d=ea K.sp c (cN c) (kE M m d) (M.S (m.f 2).toNat).blk (sZ M m d):=by unfold bW;rw[if_neg hn,if_neg b8,if_neg b7,if_neg dR]
  have Kx:sZ M m d=d:=by unfold sZ;rw[Da.out,wL.out,Int.toNat_natCast];rfl
  exact su
end
section
variable {Z:ZN}{w:World}{K:aZ}{c:aM}{a:cH K}{M:CM K.σ}
theorem Px (h:bm Z K c a M w){m:di}{v:Value}{d:List Int}(hd:cX Z w v d)(fK:M.up=true)(hb:eF m d.length=true)(h0:m.f 0=6)(ha:jP (cN c) M m=true)(ti:M.en.length≤1000000)(uV:∀b,b∈K.sp.all M.s→0≤b∧b<c.f 2)(cw:K.sp.eE M.s<bN)(vy:∀j,j<cN c→(M.S j).op≠0→0≤(M.S j).blk∧(M.S j).blk<c.f 2)
 (np:∀(a:cH K) (M:CM K.σ) (w:World) (n:Nat) (v:Value) (d:List Int),bm Z K c a M w→(n:Int)<c.f 2→cX Z w v d→(∀b,b∈K.sp.all M.s→0≤b∧b<c.f 2)→K.sp.eE M.s<bN→Calls Tryz.prog 51 #[aO a.l,.agg (fY n v)] w (Sd Z K c a M n d w)):
 Calls Tryz.prog 16 #[aO a.l,.agg (aP m v)] w (zV Z K c a M m d w):=by
 have hn:¬(M.up=false∨eF m d.length=false):=by rw[fK,hb];simp
 have hs:=iE hb;have Da:=ae h0;have Kb:(m.f 0==7)=false:=by rw[h0];decide
 have QY:(m.f 0==6)=true:=by rw[h0];decide
 have HA:=ae ha;have Bx:=ae ti;have tx:=ae uV;have tJ:=ae cw;have KF:=ae vy;have KK:=ae hb;have R7:=ae np;clear ha ti uV cw vy np;obtain⟨A,q,rfl⟩:=hd.shape;have bu:ag az w (w.alloc (.cells (aP m (.slice A d.length q)) 37)):=(ag.aj az w).alloc _;have bL:=ae<|fun k (hk:b6 a k)=>h.kB hk;have iA:=ae<|fun k (hk:jG c a k)=>h.uU hk;have kZ:=ae h.zb;have HB:=ae<|Box.fresh w 37 (aP m (.slice A d.length q));have HO:=ae<|bu.mono (S':=b6 a) fun k hk=>hk.elim;have H:=ae<|h.keep bu;have HD:=ae<|hd.keep bu;have HR:=ae<|fun(w':World)=>kR m A d.length q w';rw[hb]at HR;have mX:=h.nn.2.1;clear h hd bu hn hb h0;unfold aP at HR
 go_enter Tryz.func16,Tryz.ntmps16
 go_upto_region 1 with fail;change Code.wp _ _ _ _ (w.alloc (.cells (aP m (.slice A d.length q)) 37));have fh:=aB (∀k,jG c a k→k≠w.heap.size) (fun k hk e=>by have:=iA.out k hk;omega);have kM:=aB (w.heap.size<(w.alloc (.cells (aP m (.slice A d.length q)) 37)).heap.size) bh;generalize w.alloc (.cells (aP m (.slice A d.length q)) 37)=W at *;obtain⟨mb,fW⟩:∃mb,mb=w.heap.size:=⟨_,rfl⟩;have pG:=aB (w.heap.size≤mb) (Nat.le_of_eq fW.symm);rw[←fW]at HB fh kM ⊢;clear fW;have x0:aw W mb 0 (m.f 0):=HB.af rfl;have x1:aw W mb 1 (m.f 1):=HB.af rfl;have x2:aw W mb 2 (m.f 2):=HB.af rfl;have x3:aw W mb 3 (m.f 3):=HB.af rfl;have x4:aw W mb 4 (m.f 4):=HB.af rfl;have x5:aw W mb 5 (m.f 5):=HB.af rfl;have x6:aw W mb 6 (m.f 6):=HB.af rfl;have x7:aw W mb 7 (m.f 7):=HB.af rfl;have x8:aw W mb 8 (m.f 8):=HB.af rfl;have x9:aE W mb 9 (.bool m.g):=HB.af rfl;have vx:aE W mb 10 (.slice A d.length q):=HB.af rfl;have kz:=H.yh;rw[fK]at kz;go_upto_region 3 with(go_at_call 49;refine(HR W).mono ?_;rintro e W1 ⟨rfl,aR⟩;have aX:=ae aR;clear aR);have y0:=aX.cell x0 id;have P6:=aX.cell vx id;have bU:=ae<|aX.aq HB id;have H1:=ae<|H.keep aX;have jL:=ae<|HD.keep aX;have bf:=ae<|HO.aC aX fun _ h=>h.elim;clear x0 x1 x2 x3 x4 x5 x6 x7 x8 x9 vx kz H HB HO HD;go_upto_region 14 with fail;clear y0 P6;have jZ:=H1.pw;have y2:aw W1 mb 2 (m.f 2):=bU.af rfl;have y4:aw W1 mb 4 (m.f 4):=bU.af rfl;have hA:=HA.out;unfold jP at hA;rw[Da.out]at hA;simp only[Bool.and_eq_true,decide_eq_true_eq]at hA;obtain⟨⟨⟨⟨_,s1⟩,o1⟩,o2⟩,w1⟩:=hA;obtain⟨k,hk⟩:∃k:Nat,m.f 2=k:=⟨(m.f 2).toNat,ao⟩;rw[hk]at s1;rw[hk,Int.toNat_natCast]at o2 w1;have w1:(M.S k).wr=true:=by rw[w1];decide
 have oJ:k<cN c:=ao;have pr:(k:Int)<cN c:=ao;have U5:decide (cN c≤k)=false:=decide_eq_false ao;rw[hk]at y2;have Qa:(m.f 4==0)=false:=by simpa using o1
 have P9:((M.S k).op != m.f 4)=false:=by simpa using o2
 obtain⟨Ad,nd,md,eD⟩:=H1.DD k oJ;obtain⟨z0,z1,z2,z3,z4⟩:=bJ H1.slots oJ eD;rw[w1]at z3;have Kf:=ae w1;have oF:=aB ((M.S k).op≠0) gQ;have RY:=aB (w.heap.size≤mb) (pG);have oH:=ae oJ;have wL:=ae hk;have Ky:=eD;clear o1 o2 w1 eD hk s1 hs;have d0:aE W1.drew a.l 19 (aU a.sb (cN c) (cN c)):=jZ;have d1:aw W1.drew mb 2 k:=y2;have d2:aw W1.drew mb 4 (m.f 4):=y4;have d3:aw W1.drew a.sb (k*5) ((M.S k).op):=z0;have d4:aE W1.drew a.sb (k*5+3) (.bool true):=z3;go_upto_region 14 with fail;refine dU (fun w':World=>aE w' a.l 19 (aU a.sb (cN c) (cN c))∧aw w' mb 2 k∧aw w' mb 4 (m.f 4)∧aw w' a.sb (k*5) ((M.S k).op)∧aE w' a.sb (k*5+3) (.bool true)) 39 fun aH=>?_
 refine bX [0,1,2,3,4,5,6,7,8,9,10,11,12,13,14,15,16,17,18,19,20,21,22,23,24,25,26,27,28,29,30,31,32,33,34,35,36,37,38] ?_;refine cG ?_;clear aH d0 d1 d2 d3 d4;have cO:=ae bU.drew;have H2:=ae<|H1.keep ((ag.aj az W1).drew);have tA:=ae<|jL.keep ((ag.aj az W1).drew);have bn:=ae bf.drew;have UL:=aB (cX Z W1.drew (.slice Ad nd md) (M.S k).ed) ((Ky▸H1.fw k oH).keep ((ag.aj az W1).drew));have eD:a.dv k= .slice Ad nd md:=Ky;clear Ky;clear H1 bU jL bf aX HR jZ y2 y4 z0 z1 z2 z3 z4 Kb QY Qa P9;generalize W1.drew=W2 at *;obtain⟨z0,z1,z2,z3,z4⟩:=bJ H2.slots oH eD;rw[Kf.out]at z3;have jZ:aE W2.drew a.l 19 (aU a.sb (cN c) (cN c)):=H2.pw;have y2:aw W2.drew mb 2 k:=by rw[←wL.out];exact cO.af rfl
 have q0:W2.drew.cell? _=_:=z0;have q1:W2.drew.cell? _=_:=z1;have q2:W2.drew.cell? _=_:=z2;have q3:W2.drew.cell? _=_:=z3;have q4:W2.drew.cell? _=_:=z4;clear z0 z1 z2 z3 z4;go_upto_region 16 with fail;refine dU (fun w':World=>aE w' a.l 19 (aU a.sb (cN c) (cN c))∧aw w' mb 2 k∧aw w' a.sb (k*5) ((M.S k).op)∧aw w' a.sb (k*5+1) ((M.S k).blk)∧aw w' a.sb (k*5+2) ((M.S k).lev)∧aE w' a.sb (k*5+3) (.bool true)∧aE w' a.sb (k*5+4) (.slice Ad nd md)) 9 fun aH=>?_
 refine bX [0,1,2,3,4,5,6,7] ?_;refine cM 8 fun Kc hK=>?_
 go_simp;have uX:ag az W2 (W2.drew.alloc (.cells jY 92)):=((ag.aj az W2).drew).alloc _;have E9:=aB (Box (W2.drew.alloc (.cells jY 92)) W2.heap.size 92 jY) (Box.fresh W2.drew 92 jY);have H3:=ae<|H2.keep uX;have dM:=ae<|uX.aq cO id;have tf:=ae<|tA.keep uX;have RP:=ae<|UL.keep uX;have bK:=ae<|bn.aC uX fun _ h=>h.elim;have Kh:=aB (w.heap.size≤W2.heap.size∧W2.heap.size≠mb) (⟨bn.size,fun e=>by have:=cO.lt;omega⟩);have p19:=uX.cell (show W2.cell? _=_ from jZ) id;have p2:=uX.cell (show W2.cell? _=_ from y2) id;have p0:=uX.cell (show W2.cell? _=_ from q0) id;have p1:=uX.cell (show W2.cell? _=_ from q1) id;have p22:=uX.cell (show W2.cell? _=_ from q2) id;have p3:=uX.cell (show W2.cell? _=_ from q3) id;have p4:=uX.cell (show W2.cell? _=_ from q4) id;change Kc _ (W2.drew.alloc (.cells jY 92));clear uX H2 cO tA UL bn
 try rw[show W2.drew.heap.size=W2.heap.size from rfl]
 generalize W2.drew.alloc (.cells jY 92)=W3 at *;generalize W2.heap.size=tb at *;refine eh hK fun aH=>?_
 clear hK;refine cG ?_;clear aH jZ y2 q0 q1 q2 q3 q4 p19 p2 p0 p1 p22 p3 p4;refine fJ (sY ⟨(M.S k).op,(M.S k).blk,(M.S k).lev,true,[]⟩ Ad nd md) E9 (by simp[sY,Value.oneCell']) ?_;have j4:ag (ar tb) W3 (W3.setRow tb (sY ⟨(M.S k).op,(M.S k).blk,(M.S k).lev,true,[]⟩ Ad nd md)):=(ag.aj (ar tb) W3).au (.inl rfl) _;have Vh:Wr Z (ar tb) W3:=fun j hj e=>by rw[show j=tb from e];exact⟨Nat.le_trans kZ Kh.1,.inr fun cs hb=>(E9.off hb aD) rfl⟩
 have RJ:=ae<|E9.au (sY ⟨(M.S k).op,(M.S k).blk,(M.S k).lev,true,[]⟩ Ad nd md);have H4:=ae (H3.dC j4 Vh fun j hj e=>by have:=iA.out j hj;have:=Kh.1;have e:j=tb:=e;omega);have iM:=ae<|j4.aq dM fun e=>Kh.2 (show mb=tb from e).symm;have DM:=ae<|tf.aA j4 Vh;have RO:=ae<|RP.aA j4 Vh;have bM:=ae<|bK.aC j4 fun j hj=>.inr (by rw[show j=tb from hj];exact Kh.1);clear j4 Vh E9 H3 dM tf RP bK;generalize W3.setRow tb (sY ⟨(M.S k).op,(M.S k).blk,(M.S k).lev,true,[]⟩ Ad nd md)=W4 at *;have s9:=H4.pw;have x2:aw W4 mb 2 k:=by rw[←wL.out];exact iM.af rfl
 obtain⟨z0,z1,z2,z3,z4⟩:=bJ H4.slots oH eD;have g0:W4.frozen? ⟨a.sb,k*5,none⟩=false:=H4.slots.free _;have g1:W4.frozen? ⟨a.sb,k*5+1,none⟩=false:=H4.slots.free _;have g2:W4.frozen? ⟨a.sb,k*5+2,none⟩=false:=H4.slots.free _;have g3:W4.frozen? ⟨a.sb,k*5+3,none⟩=false:=H4.slots.free _;have g4:W4.frozen? ⟨a.sb,k*5+4,none⟩=false:=H4.slots.free _;have k19:aE W4.drew a.l 19 (aU a.sb (cN c) (cN c)):=s9;have k2:aw W4.drew mb 2 k:=x2;go_upto_region 17 with fail;refine dU (fun w':World=>aE w' a.l 19 (aU a.sb (cN c) (cN c))∧aw w' mb 2 k) 7 fun aH=>?_
 refine bX [0,1,2,3,4,5] ?_;refine cM 6 fun Kc hK=>?_
 go_simp;refine eh hK fun aH=>?_
 clear hK;refine cG ?_;clear aH k19 k2;have j5:=(ag.aj (ar a.sb) W4).drew;have d0:W4.drew.cell? _=_:=z0;have d1:W4.drew.cell? _=_:=z1;have d2:W4.drew.cell? _=_:=z2;have d3:W4.drew.cell? _=_:=z3;have d4:W4.drew.cell? _=_:=z4;have f0:W4.drew.frozen? _=false:=g0;have f1:W4.drew.frozen? _=false:=g1;have f2:W4.drew.frozen? _=false:=g2;have f3:W4.drew.frozen? _=false:=g3;have f4:W4.drew.frozen? _=false:=g4;have YJ:=ae<|H4.keep ((ag.aj az W4).drew);have Sa:=ae iM.drew;have R6:=ae<|DM.keep ((ag.aj az W4).drew);have Hw:=ae<|RO.keep ((ag.aj az W4).drew);have Hv:=ae RJ.drew;have RU:=ae bM.drew;clear z0 z1 z2 z3 z4 g0 g1 g2 g3 g4 s9 x2 H4 iM DM RO RJ bM j5;generalize W4.drew=W5 at *;go_upto_region 18 with fail;change Code.wp _ _ _ _ (((((W5.setCell ⟨a.sb,k*5,none⟩ (ah 0)).setCell ⟨a.sb,k*5+1,none⟩ (ah 0)).setCell ⟨a.sb,k*5+2,none⟩ (ah 0)).setCell ⟨a.sb,k*5+3,none⟩ (.bool false)).setCell ⟨a.sb,k*5+4,none⟩ aJ);have J8:Box (((((W5.setCell ⟨a.sb,k*5,none⟩ (ah 0)).setCell ⟨a.sb,k*5+1,none⟩ (ah 0)).setCell ⟨a.sb,k*5+2,none⟩ (ah 0)).setCell ⟨a.sb,k*5+3,none⟩ (.bool false)).setCell ⟨a.sb,k*5+4,none⟩ aJ) a.sb 92 (mC (cN c) (aI (fun j=>sR (M.S j) (a.dv j)) k (sR EH aJ))):=by
  exact r7
 have j6:ag (ar a.sb) W5 (((((W5.setCell ⟨a.sb,k*5,none⟩ (ah 0)).setCell ⟨a.sb,k*5+1,none⟩ (ah 0)).setCell ⟨a.sb,k*5+2,none⟩ (ah 0)).setCell ⟨a.sb,k*5+3,none⟩ (.bool false)).setCell ⟨a.sb,k*5+4,none⟩ aJ):=(((((ag.aj (ar a.sb) W5).setCell (p:=⟨a.sb,k*5,none⟩) (.inl (show ar a.sb a.sb from rfl)) _).setCell (p:=⟨a.sb,k*5+1,none⟩) (.inl (show ar a.sb a.sb from rfl)) _).setCell (p:=⟨a.sb,k*5+2,none⟩) (.inl (show ar a.sb a.sb from rfl)) _).setCell (p:=⟨a.sb,k*5+3,none⟩) (.inl (show ar a.sb a.sb from rfl)) _).setCell (p:=⟨a.sb,k*5+4,none⟩) (.inl (show ar a.sb a.sb from rfl)) _;have JK:∀j,ar a.sb j→b6 a j:=fun j hj=>by rw[show j=a.sb from hj];exact .inr (.inr (.inr (.inr (.inr (.inr (.inr (.inl rfl)))))))
 have NM:Wr Z (ar a.sb) W5:=fun j hj hs=>YJ.wr j hj (JK j hs)
 have H6:=ae<|YJ.vi j6 J8 (cX.nil _ _);have kI:=ae<|j6.aq Sa fun e=>fh a.sb (.inl (JK _ rfl)) (show mb=a.sb from e).symm;have yK:=ae (j6.aq Hv fun e=>by have:=bL.out a.sb (JK _ rfl);have:=Kh.1;have e:tb=a.sb:=e;omega);have oo:=ae<|R6.aA j6 NM;have Bp:=ae<|Hw.aA j6 NM;have cZ:=ae<|RU.aC j6 fun j hj=>.inl (JK j hj);clear J8 j6 JK NM d0 d1 d2 d3 d4 f0 f1 f2 f3 f4 YJ Sa R6 Hw Hv RU eD;generalize(((((W5.setCell ⟨a.sb,k*5,none⟩ (ah 0)).setCell ⟨a.sb,k*5+1,none⟩ (ah 0)).setCell ⟨a.sb,k*5+2,none⟩ (ah 0)).setCell ⟨a.sb,k*5+3,none⟩ (.bool false)).setCell ⟨a.sb,k*5+4,none⟩ aJ)=W6 at *;have y2:aw W6 mb 2 k:=by rw[←wL.out];exact kI.af rfl
 have y4:aw W6 mb 4 (m.f 4):=kI.af rfl;have y8:aw W6 mb 8 (m.f 8):=kI.af rfl;go_upto_region 19 with fail;change Code.wp _ _ _ _ (W6.alloc (.cells (FZ k (m.f 4) true (m.f 8) aJ) 58));have ug:ag az W6 (W6.alloc (.cells (FZ k (m.f 4) true (m.f 8) aJ) 58)):=(ag.aj az W6).alloc _;have Dh:=ae<|Box.fresh W6 58 (FZ k (m.f 4) true (m.f 8) aJ);have H7:=ae<|H6.keep ug;have sV:=ae<|ug.aq kI id;have GS:=ae<|ug.aq yK id;have vJ:=ae<|oo.keep ug;have Fb:=ae<|Bp.keep ug;have fC:=ae<|cZ.aC ug fun _ h=>h.elim;have tu:=aB (w.heap.size≤W6.heap.size∧W6.heap.size≠mb∧W6.heap.size≠tb) (⟨cZ.size,fun e=>by have:=kI.lt;omega,fun e=>by have:=yK.lt;omega⟩);clear ug y2 y4 y8 H6 kI yK oo Bp cZ;generalize W6.alloc (.cells (FZ k (m.f 4) true (m.f 8) aJ) 58)=W7 at *;generalize W6.heap.size=rb at *;have w4:aE W7 tb 4 (.slice Ad nd md):=GS.af rfl;go_upto_region 22 with fail;clear w4;have H9:=H7;have zL:=sV;have RH:=GS;have gW:=Dh;have BA:=Fb;have Br:=ae<|cX.nil Z W7;have kf:=fC;generalize W7=W9 at *;obtain⟨Ae,ce,uh,_,_⟩:=H9.en.shape;have nc:=aB (a.en= .slice Ae M.en.length ce) (uh);obtain⟨X,e1,r1,d1⟩:=H9.en;have cQ:ag az W9 (W9.alloc (.cells (jD ⟨k,m.f 4,true,m.f 8,[]⟩ aJ).toArray 58)).drew:=((ag.aj az W9).alloc _).drew;have CV:=aB (∀j u,(jD ⟨k,m.f 4,true,m.f 8,[]⟩ aJ)[j]? =some u→(W9.alloc (.cells (jD ⟨k,m.f 4,true,m.f 8,[]⟩ aJ).toArray 58)).drew.cell? ((⟨W9.heap.size,0,none⟩:Addr).add j)=some u) (cV W9 _ _);have lH:=ae e1;have AW:=bk r1 cQ fun _ _=>id
 rw[uh]at AW;have b5:=ae AW;have JW:=ae<|fun p hp=>(d1 p hp).keep cQ;have H5:=ae<|H9.keep cQ;have RR:=ae<|Br.keep cQ;have R9:=ae<|BA.keep cQ;have iG:=ae<|cQ.aq zL id;have RI:=ae<|cQ.aq RH id;have RS:=ae<|cQ.aq gW id;have bM:=ae<|kf.aC cQ fun _ h=>h.elim;have tF:=aB (Z.B≤(W9.alloc (.cells (jD ⟨k,m.f 4,true,m.f 8,[]⟩ aJ).toArray 58)).drew.heap.size) (Nat.le_trans H9.zb cQ.size);have Ke:=aB (X.length≤1000000) (by
  have h8:X.length=M.en.length:=by rw[←List.length_map (f:=Prod.fst),e1]
  have h9:=Bx.out;omega)
 have kk:aE W9.drew a.l 22 (.slice Ae M.en.length ce):=by rw[←nc.out];exact H9.Qn
 have k0:aw W9.drew rb 0 k:=gW.af rfl;have k1:aw W9.drew rb 1 (m.f 4):=gW.af rfl;have k2:aE W9.drew rb 2 (.bool true):=gW.af rfl;have k3:aw W9.drew rb 3 (m.f 8):=gW.af rfl;have k4:aE W9.drew rb 4 aJ:=gW.af rfl;have Q3:=cQ.cell (show aE W9 a.l 22 (.slice Ae M.en.length ce)from kk) id;have e0:=cQ.cell (show W9.cell? _=_ from k0) id;have ZX:=cQ.cell (show W9.cell? _=_ from k1) id;have e2:=cQ.cell (show W9.cell? _=_ from k2) id;have e3:=cQ.cell (show W9.cell? _=_ from k3) id;have e4:=cQ.cell (show W9.cell? _=_ from k4) id;clear uh e1 r1 AW d1 cQ;go_upto_region 22 with fail;refine dU (fun w':World=>aE w' a.l 22 (.slice Ae M.en.length ce)∧aw w' rb 0 k∧aw w' rb 1 (m.f 4)∧aE w' rb 2 (.bool true)∧aw w' rb 3 (m.f 8)∧aE w' rb 4 aJ) 8 fun aH=>?_
 refine bX [0,1,2,3,4,5] ?_;refine cM 6 fun Kc hK=>?_
 go_simp;refine eh hK fun aH=>?_
 clear hK;refine cM 7 fun Kc hK=>?_
 refine nV _ (.tmp 120) (.tmp 122) 50 58 rfl yO rfl aD Tryz.underlying50 Z.B (.slice Ae M.en.length ce) X.length _ (jD ⟨k,m.f 4,true,m.f 8,[]⟩ aJ) rfl b5 ⟨W9.heap.size,0,none⟩ rfl rfl CV eM bR bQ tF ?_;intro v6 W6 h6 bT h9;have EN:∀j,aK v6 j→aK a.en j∨(W9.alloc (.cells (jD ⟨k,m.f 4,true,m.f 8,[]⟩ aJ).toArray 58)).drew.heap.size≤j:=fun j hj=>by
  exact jo
 have bT:ag (aK a.en) (W9.alloc (.cells (jD ⟨k,m.f 4,true,m.f 8,[]⟩ aJ).toArray 58)).drew W6:=by rw[nc.out];exact bT
 have wG:Wr Z (aK a.en) (W9.alloc (.cells (jD ⟨k,m.f 4,true,m.f 8,[]⟩ aJ).toArray 58)).drew:=fun j hj hs=>H5.wr j hj (.inr (.inr (.inr (.inr (.inr (.inr (.inr (.inr hs))))))))
 have pC:∀j,w.heap.size≤j→¬aK a.en j:=fun j hj e=>by have:=bL.out j (.inr (.inr (.inr (.inr (.inr (.inr (.inr (.inr e))))))));omega
 have tH:=ae<|dy.app (v:=v6) (⟨k,m.f 4,true,m.f 8,[]⟩,aJ) h6 lH (fun p hp=>(JW p hp).aA bT wG) (RR.aA bT wG);have zI:=ae EN;have GD:=ae bT;have kI:=ae<|bT.aq iG (pC _ RY);have yK:=ae<|bT.aq RI (pC _ Kh.1);have yL:=ae<|bT.aq RS (pC _ tu.1);have R8:=ae<|R9.aA bT wG;have gX:=bT.aq H5.aq H5.ap.Zs;have kk:aE W6 a.l 22 (.slice Ae M.en.length ce):=by rw[←nc.out];exact gX.af rfl
 have k0:aw W6 rb 0 k:=yL.af rfl;have k1:aw W6 rb 1 (m.f 4):=yL.af rfl;have k2:aE W6 rb 2 (.bool true):=yL.af rfl;have k3:aw W6 rb 3 (m.f 8):=yL.af rfl;have k4:aE W6 rb 4 aJ:=yL.af rfl;have f22:W6.frozen? ⟨a.l,22,none⟩=false:=gX.free _;obtain⟨A6,c6,e6,_,_⟩:=cz h6;subst e6;have xc:=ae gX;clear h6 bT h9 EN wG gX pC;refine eh hK fun aH=>?_
 clear hK;refine cG ?_;clear aH Q3 e0 ZX e2 e3 e4 k0 k1 k2 k3 k4;go_upto_region 23 with fail;change Code.wp _ _ _ _ (W6.setCell ⟨a.l,22,none⟩ (.slice A6 (X.length+1) c6));obtain⟨ER,dL⟩:=H5.pH GD tH zI;have j7:ag (ar a.l) W6 (W6.setCell ⟨a.l,22,none⟩ (.slice A6 (X.length+1) c6)):=(ag.aj (ar a.l) W6).setCell (p:=⟨a.l,22,none⟩) (.inl (show ar a.l a.l from rfl)) _;have wH:Wr Z (ar a.l) W6:=fun j _ e=>by
  exact qz
 have ZI:a.l<w.heap.size:=bL.out a.l (.inr (.inr (.inr (.inr (.inr (.inr (.inl rfl)))))));have H7:=aB (bm Z K c {a with dv:=aI a.dv k aJ,en:=.slice A6 (X.length+1) c6} (kE M m d) _) (by rw[←Ek (M:=M) (d:=d) wL.out Da.out];exact ER);have fC:=ae<|bM.trans dL;have sV:=ae (j7.aq kI fun e=>by have:=RY.out;have e:mb=a.l:=e;omega);have GS:=ae (j7.aq yK fun e=>by have:=Kh.1;have e:tb=a.l:=e;omega);have adJ:=ae<|R8.aA j7 wH;have CO:∀j,aK (.slice A6 (X.length+1) c6) j→aK a.en j∨w.heap.size≤j:=fun j hj=>(zI j hj).imp id fun e=>Nat.le_trans bM.size e
 have HS7:=aB (ib c a {a with dv:=aI a.dv k aJ,en:=.slice A6 (X.length+1) c6} w (W6.setCell ⟨a.l,22,none⟩ (.slice A6 (X.length+1) c6))) (⟨rfl,fun j hj=>xw (D:=a.D) CO hj,fun j hj=>AP (D:=a.D) CO hj,fC⟩);clear ER dL j7 wH CO ZI kk f22 GD tH zI xc bM RR R9 R8 H5 iG kI RI yK RS yL b5 JW CV tF H9 zL RH gW BA Br kf;generalize W6.setCell ⟨a.l,22,none⟩ (.slice A6 (X.length+1) c6)=W8 at *;have y9:aE W8 mb 9 (.bool m.g):=sV.af rfl;have hn:¬(M.up=false∨eF m d.length=false):=by rw[fK,KK.out];simp
 cases hg:m.g with
 |false=>
  exact qZ
 |true=>
  rw[hg]at y9;have hm:bd K.sp c (cN c) M m d=df K.sp c (kE M m d) (M.S (m.f 2).toNat).blk (sZ M m d):=by unfold bd;rw[if_neg hn,if_neg b8,if_neg b7,if_neg dR]
  have ht:bW K.sp c (cN c) M m d=ea K.sp c (cN c) (kE M m d) (M.S (m.f 2).toNat).blk (sZ M m d):=by unfold bW;rw[if_neg hn,if_neg b8,if_neg b7,if_neg dR]
  have Kx:sZ M m d=(M.S k).ed:=by unfold sZ;rw[Da.out,wL.out,Int.toNat_natCast];rfl
  exact su
end
variable {Z:ZN}{w w':World}{K:aZ}{c:aM}{a:cH K}{M:CM K.σ}
theorem bm.fresh (h:bm Z K c a M w){i':K.ι}{s':K.σ}{D':Int→Option oM}{Dp:Int→Option (List Int)}(hc:cP K i' w' a.cb a.mb c a.hv 1 s' D')(hF:∀k,K.F i' k→w.heap.size≤k)(ho:ag (fun k=>k=a.mb∨k=a.cb) w w')(hdp:∀b,Dp b=(D' b).map Prod.fst)
 (hD:∀b l v,D' b=some (l,v)→∀k,aK v k→¬Z.N k):bm Z K c {a with i:=i',D:=D'} {M with s:=s',D:=Dp} w':=by
 have GL:∀k,(k=a.mb∨k=a.cb)→tg K a.i a.cb a.mb k:=fun k hk=>hk.elim (fun e=>.inr (.inr e)) fun e=>.inr (.inl e)
 have hS:Wr Z (fun k=>k=a.mb∨k=a.cb) w:=fun k hk hs=>h.wr k hk (GL k hs).uT
 have ap:=h.ap;have hW:∀k,b6 {a with i:=i',D:=D'} k→w.heap.size≤k∨b6 a k:=fun k hk=>by
  rcases hk with e|e
  ·exact .inl (hF k e)
  ·exact .inr (.inr e)
 exact {
  aq:=ho.aq h.aq fun e=>ap.ZZ _ (GL _ e) rfl
  slots:=ho.aq h.slots fun e=>ap.c_s _ (GL _ e) rfl
  fw:=fun j hj=>(h.fw j hj).aA ho hS
  j0:=hc
  dd:=hdp
  dn:=hD
  AV:=h.AV.aA ho (fun e=>ap.c_u _ (GL _ e) rfl) (fun e=>ap.c_g _ (GL _ e) rfl) (fun e=>ap.c_e _ (GL _ e) rfl)
  bw:=by
   obtain⟨A,n,m,e,h1,h2⟩:=h.bw;refine⟨A,n,m,e,h1.mH ho fun h0 k hk e2=>h2 h0 k (e▸hk) (GL k e2).uT,fun h0 k hk e2=>?_⟩;rcases hW k e2 with e3|e3
   ·have:=h1.lt h0 (e▸hk);omega
   ·exact h2 h0 k hk e3
  en:=h.en.aA ho hS fun k hk e=>ap.c_n _ (GL _ e) hk
  fs:=fun k hk=>by
   rcases hk with hk|hk
   ·have h9:=hF k hk;have b1:=h.aq.lt;have b2:=h.slots.lt;obtain⟨lev,dG,hr,_,_⟩:=h.AV;have b3:=hr.aq.lt;have b4:=hr.sp.Qc;refine⟨fun e=>?_,fun e=>?_,fun e=>?_,fun e=>?_,fun e=>?_,fun e=>?_⟩
    ·have e:k=a.l:=e;omega
    ·have e:k=a.sb:=e;omega
    ·have e:k=a.u:=e;omega
    ·have e:k=a.g:=e;omega
    ·have e:k=a.eb:=e;omega
    ·obtain⟨_,cs',h7⟩:=h.en.aq e;have:=h7.lt;omega
   ·exact h.fs k (.inr hk)
  lo:=fun k hk=>by
   rcases hW k hk with e|e
   ·have:=h.zb;omega
   ·exact h.lo k e
  AX:=fun k hk=>Nat.lt_of_lt_of_le (h.AX k hk) ho.size
  fu:=h.fu}
section
theorem IK (hK:K.Made c 1)(h:bm Z K c a M w):
 Calls Tryz.prog 22 #[aO a.l] w fun e w'=>∃a',e= .returned (.tuple #[])∧bm Z K c a' (zP K.s0 M) w'∧ib c a a' w w':=by
 have f21:w.frozen? ⟨a.l,21,none⟩=false:=h.aq.free _;have kz:=h.yh;have H1:=ae<|h.MG false;have HJ:=ae<|h.j 21 (.bool false);have HZ:=ae<|h.zb;clear h
 go_enter Tryz.func22,Tryz.ntmps22
 go_upto_region 2 with fail;change Code.wp _ _ _ _ (w.setCell ⟨a.l,21,none⟩ (.bool false));generalize w.setCell ⟨a.l,21,none⟩ (.bool false)=W at *;clear kz f21;have Us:=H1.mD;have HC:=ae<|PS hK H1.j0;go_wp2_with (go_at_call 59;refine HC.mono ?_;rintro e W2 ⟨i',rfl,kX,ZV,bp⟩)
 (try simp only[Exit.inBlock,Exit.then])
 refine bodyPost_end (results_none rfl _ _ _) rfl ?_;have jU:=H1.fresh (Dp:=fun _=>none) kX ZV bp (fun _=>rfl) (fun _ _ _ e=>by cases e);refine⟨_,rfl,jU,rfl,fun k hk=>?_,fun k hk=>?_,?_⟩
 ·rcases hk with e|e
  ·exact .inr (Nat.le_trans HJ.size (ZV k e))
  ·exact .inl (.inr e)
 ·rcases hk with(e|e)|e
  ·exact .inr (Nat.le_trans HJ.size (ZV k e))
  ·exact .inl (.inl (.inr e))
  ·exact .inl (.inr e)
 ·exact(HJ.mono (S':=b6 a) fun k hk=>.inl mB).aC bp fun k hk=>.inl (hk.elim (fun e=>.inr (.inr (.inl e))) fun e=>.inr (.inl e))
theorem uK (h:bm Z K c a M w):
 Calls Tryz.prog 19 #[aO a.l] w fun e w'=>∃v a',e= .returned v∧dy Z w' Z.B v M.en∧bm Z K c a' {M with en:=[]} w'∧ib c a a' w w':=by
 obtain⟨Ae,ce,uh,_,_⟩:=h.en.shape;have f22:w.frozen? ⟨a.l,22,none⟩=false:=h.aq.free _;have x22:=h.Qn;rw[uh]at x22;obtain⟨h1,h2⟩:=h.pH (ev:=aJ) (E:=[]) (ag.aj _ _) (dy.nil _ _ _) (fun k hk=>(a7 hk).elim);have H1:=ae h1;have HO:=ae h2;have HJ:=h.j 22 aJ;have Yo:Wr Z (ar a.l) w:=fun k hk hs=>h.wr k hk mA
 have HE:=ae<|h.en.aA HJ Yo fun k hk e=>h.ap.Zs (by rw[←show k=a.l from e];exact hk);rw[uh]at HE;clear h h1 h2 HJ Yo
 go_enter Tryz.func19,Tryz.ntmps19
 go_wp2;go_ret;exact⟨_,{a with en:=aJ},rfl,HE,H1,⟨rfl,fun k hk=>xw (D:=a.D) (dv:=a.dv) (n:=w.heap.size) (fun k hk=>(a7 hk).elim) hk,fun k hk=>AP (D:=a.D) (dv:=a.dv) (n:=w.heap.size) (fun k hk=>(a7 hk).elim) hk,HO⟩⟩
theorem kT (h:bm Z K c a M w):
 Calls Tryz.prog 21 #[aO a.l] w fun e w'=>∃v,e= .returned v∧aF 3 w' w.heap.size v (K.sp.all M.s)∧ag az w w':=by
 have Us:=h.mD;have HA:=ae<|XR h.j0;clear h
 go_enter Tryz.func21,Tryz.ntmps21
 go_wp2_with (go_at_call 58;refine HA.mono ?_;rintro e W2 ⟨v,rfl,h1,h2⟩);go_ret;exact⟨v,rfl,h1,h2⟩
def vk (n:Nat)(S:Nat→kY)(i:Int):Bool:=decide (0≤i)&&decide (i<n)&&decide ((S i.toNat).op=0)
theorem xS (h:bm Z K c a M w)(i:Int):
 Calls Tryz.prog 24 #[aO a.l,ah i] w fun e w'=>e= .returned (.bool (vk (cN c) M.S i))∧w=w':=by
 have s9:=h.pw;have mX:=h.nn.2.1;have vy:∀k:Nat,k<cN c→aw w a.sb (k*5) ((M.S k).op):=fun k hk=>by
  exact mq
 have Qu:=ae vy;unfold vk;generalize cN c=n at *;clear h vy
 by_cases i0:0≤i
 ·rw[decide_eq_true i0]
  by_cases i1:i<n
  ·rw[decide_eq_true i1];obtain⟨k,rfl⟩:∃k:Nat,i=k:=⟨i.toNat,ao⟩;have hk:k<n:=ao;have y0:=Qu.out k hk;rw[Int.toNat_natCast];clear Qu i0;generalize(M.S k).op=op at *;have U5:decide (k<n)=true:=decide_eq_true hk
   go_enter Tryz.func24,Tryz.ntmps24
   go_wp2_with fail;go_ret;exact⟨by by_cases e:op=0<;>simp[e],rfl⟩
  ·rw[decide_eq_false i1];clear Qu
   go_enter Tryz.func24,Tryz.ntmps24
   go_wp2_with fail;go_ret;exact⟨rfl,rfl⟩
 ·rw[decide_eq_false i0];clear Qu
  go_enter Tryz.func24,Tryz.ntmps24
  go_wp2_with fail;go_ret;exact⟨rfl,rfl⟩
end
section
variable {hP:cK c}{hk:0<3}{a:cH (aQ c 0 hP hk)}{M:CM (aQ c 0 hP hk).σ}
theorem Ug (h:bm Z (aQ c 0 hP hk) c a M w){m:di}{v:Value}{d:List Int}(hd:cX Z w v d)(ti:M.en.length≤1000000)(uV:∀b,b∈(aQ c 0 hP hk).sp.all M.s→0≤b∧b<c.f 2)(cw:(aQ c 0 hP hk).sp.eE M.s<bN)
 (vy:∀j,j<cN c→(M.S j).op≠0→0≤(M.S j).blk∧(M.S j).blk<c.f 2):
 Calls Tryz.prog 16 #[aO a.l,.agg (aP m v)] w (zV Z (aQ c 0 hP hk) c a M m d w):=by
 cases fK:M.up with
 |false=>exact IG h hd (.inl fK)
 |true=>
  cases hb:eF m d.length with
  |false=>exact IG h hd (.inr hb)
  |true=>
   have wD:=fun(a:cH (aQ c 0 hP hk)) (M:CM (aQ c 0 hP hk).σ) (w:World) (n:Nat) (v:Value) (d:List Int) (h:bm Z (aQ c 0 hP hk) c a M w) h1 h2 h3 h4=>PQ (n:=n) (v:=v) (d:=d) h h1 h2 h3 h4
   by_cases h7:m.f 0=7
   ·exact T1 h hd fK hb h7
   by_cases h6:m.f 0=6
   ·cases ha:jP (cN c) M m with
    |false=>exact Pu h hd fK hb h6 ha
    |true=>exact Px h hd fK hb h6 ha ti uV cw vy wD
   by_cases h5:m.f 0=5
   ·cases ha:jP (cN c) M m with
    |false=>exact Pv h hd fK hb h5 ha
    |true=>exact Py h hd fK hb h5 ha ti uV cw vy wD
   exact LU h hd fK hb h5 h6 h7
end
theorem kS {S:Nat→kY}{k:Nat}(h:(S k).op≠0):dx S (k+1)=dx S k ++ [ie k (S k)]:=by
 show dx S k ++ (if(S k).op≠0 then[ie k (S k)]else[])=_
 rw[if_pos h]
theorem xK {S:Nat→kY}{k:Nat}(h:(S k).op=0):dx S (k+1)=dx S k:=by
 show dx S k ++ (if(S k).op≠0 then[ie k (S k)]else[])=_
 rw[if_neg (fun e=>e h),List.append_nil]
theorem uD (S:Nat→kY):∀k,(dx S k).length≤k
 |0=>Nat.le_refl _
 |k+1=>by
  have:=uD S k
  by_cases h:(S k).op=0
  ·rw[xK h];omega
  ·rw[kS h,List.length_append,List.length_singleton];omega
variable {Z:ZN}{w:World}{K:aZ}{c:aM}{a:cH K}{M:CM K.σ}
def UpR (Z:ZN)(K:aZ)(c:aM)(a:cH K)(M:CM K.σ)(W1:World)(told i:Value)(wr:World):Prop:=
 ∃k:Nat,k≤cN c∧i=ah k∧bg Z wr W1.heap.size told (dx M.S k)∧bm Z K c a {M with up:=true} wr∧ag az W1 wr
section
theorem gE{P:Prop}(h:P:=by
 go_wp2
 go_roundw
 case rel=>(repeat first|exact HR|(refine⟨HR,?_⟩;(repeat(first|exact rfl|refine⟨rfl,?_⟩)))|apply Exists.intro)
 case measure=>simp[intOf];have:=oH.out;omega):P:=h
theorem rP{P:Prop}(h:P:=by
 clear yn;exact gE):P:=h
theorem jx{P:Prop}(h:P:=by rw[←List.length_map (f:=Prod.fst),e1]):P:=h
theorem KZ (h:bm Z K c a M w):
 Calls Tryz.prog 23 #[aO a.l] w fun e w'=>∃v,e= .returned v∧bg Z w' w.heap.size v (dx M.S (cN c))∧bm Z K c a {M with up:=true} w'∧ag (b6 a) w w':=by
 have f21:w.frozen? ⟨a.l,21,none⟩=false:=h.aq.free _;have kz:=h.yh;have H1:=ae<|h.MG true;have HJ:=ae<|h.j 21 (.bool true);have iA:=ae<|fun k (hk:jG c a k)=>h.uU hk;have afC:=ae h.zb;have mX:=h.nn.2.1;clear h
 go_enter Tryz.func23,Tryz.ntmps23
 go_upto_region 4 with fail;change Code.wp _ _ _ _ (w.setCell ⟨a.l,21,none⟩ (.bool true));have oK:Hid ((w.setCell ⟨a.l,21,none⟩ (.bool true)).heap.size=w.heap.size):=ae<|World.size_setCell ..;generalize w.setCell ⟨a.l,21,none⟩ (.bool true)=W1 at *;clear kz f21;have iA:=aB (∀k,jG c a k→k<W1.heap.size) (fun k hk=>by rw[oK.out];exact iA k hk);have kZ:=aB (Z.B≤W1.heap.size) (by rw[oK.out];exact afC);have s9:=H1.pw;go_wp2_with fail;clear s9
 go_loopw [3,16] (fun told i wr=>UpR Z K c a M W1 told i wr) (fun _ i _=>cN c - (intOf i).toNat)
 case atStart=>exact⟨0,dT _,rfl,bg.nil _ _ _,H1,ag.aj _ _⟩
 case round=>
  obtain⟨k,hk,rfl,F3,fL,ho⟩:=hrel;obtain⟨At,ct,et,_,_⟩:=F3.shape;subst et;have CU:=ae F3;have H2:=ae fL;have bf:=ae ho;clear F3 fL ho
  by_cases aY:k<cN c
  ·have oH:=ae aY;have EW:=aB ((dx M.S k).length≤3) (by have:=uD M.S k;omega);obtain⟨Ad,nd,md,eD⟩:=H2.DD k aY;obtain⟨y0,y1,y2,y3,y4⟩:=bJ H2.slots aY eD;have pr:(k:Int)<cN c:=ao;go_upto_region 8 with fail;have uX:ag az wr (wr.alloc (.cells #[ah (M.S k).op,ah (M.S k).blk,ah (M.S k).lev,.bool (M.S k).wr,.slice Ad nd md] 92)):=(ag.aj az wr).alloc _;have dM:=ae<|Box.fresh wr 92 #[ah (M.S k).op,ah (M.S k).blk,ah (M.S k).lev,.bool (M.S k).wr,.slice Ad nd md];change Code.wp _ _ _ _ (wr.alloc (.cells #[ah (M.S k).op,ah (M.S k).blk,ah (M.S k).lev,.bool (M.S k).wr,.slice Ad nd md] 92));have H3:=ae<|H2.keep uX;have mZ:=ae<|CU.keep uX;have bn:=ae<|bf.trans uX;clear uX H2 CU bf y0 y1 y2 y3 y4 eD aY hk;generalize wr.alloc (.cells #[ah (M.S k).op,ah (M.S k).blk,ah (M.S k).lev,.bool (M.S k).wr,.slice Ad nd md] 92)=W3 at *;generalize wr.heap.size=tb at *;have z0:aw W3 tb 0 ((M.S k).op):=dM.af rfl
   by_cases yn:(M.S k).op=0
   ·have aak:((M.S k).op != 0)=false:=by simpa using yn
    have HR:=aB (UpR Z K c a M W1 (.slice At (dx M.S k).length ct) (ah ((k:Int)+1)) W3) (⟨k+1,oH,by simp,by rw[xK yn];exact mZ,H3,bn⟩);exact rP
   have aak:((M.S k).op != 0)=true:=by simpa using yn
   have oF:=ae yn;clear yn
   cases hw:(M.S k).wr with
   |false=>
    have hs:M.S k=⟨(M.S k).op,(M.S k).blk,(M.S k).lev,false,(M.S k).ed⟩:=by rw[←hw]
    have uW:ie k (M.S k)=CH 1 k (M.S k).op (M.S k).blk (M.S k).lev 0 []:=by unfold ie;rw[hw];rfl
    have HA:=ae<|Cz H3 oH hs;have Gz:=ae uW;unfold dW at HA;clear hs uW hw;go_upto_region 10 with(first|(go_at_call 41;refine HA.mono ?_;rintro e W7 ⟨A7,n7,m7,rfl,Ba,dL⟩;have bu:=dL.alloc (.cells (dW 1 k (M.S k).op (M.S k).blk (M.S k).lev (.slice A7 n7 m7)) 37);have H7:=ae<|H3.keep bu;have fC:=ae<|bn.trans bu;have ej:=ae<|mZ.keep bu;have vJ:=ae<|Ba.keep ((ag.aj az W7).alloc (.cells (dW 1 k (M.S k).op (M.S k).blk (M.S k).lev (.slice A7 n7 m7)) 37));obtain⟨X,e1,r1,d1⟩:=ej.out;have lH:=ae e1;have b5:=ae r1;have tI:=ae d1;have Ke:=aB (X.length≤4) (by(have h9:=EW.out;have h8:X.length=(dx M.S k).length:=jx;omega));clear bu Ba dL e1 r1 d1)|(at_builtin;refine ef _ rfl (.tmp 24) (.tmp 28) 40 37 rfl oC rfl aD Tryz.underlying40 W1.heap.size _ X.length _ (dW 1 k (M.S k).op (M.S k).blk (M.S k).lev (.slice A7 n7 m7)).toList rfl b5 ⟨W7.heap.size,0,none⟩ rfl rfl (cV W7 _ _) dS bR bQ fC.size ?_;intro v8 W8 h8 eT _;have kW:=ej.wr kZ.out;have nL:=ae<|bg.app (v':=undef) (CH 1 k (M.S k).op (M.S k).blk (M.S k).lev 0 [],.slice A7 n7 m7) h8 lH (fun q hq=>(tI q hq).aA eT kW) (vJ.aA eT kW);have H8:=ae (H7.dC eT kW fun j hj e=>by have:=(ej.aq e).1;have:=iA.out j hj;omega);have ix:=ae<|fC.aC eT fun j hj=>.inr (ej.aq hj).1;obtain⟨A8,c8,e8,_,_⟩:=cz h8;subst e8;clear h8 eT kW));have HR:=aB (UpR Z K c a M W1 (.slice A8 (X.length+1) c8) (ah ((k:Int)+1)) W8) (⟨k+1,oH,by simp,by rw[kS oF.out,Gz.out];exact nL,H8,ix⟩);exact gE
   |true=>
    have hs:M.S k=⟨(M.S k).op,(M.S k).blk,(M.S k).lev,true,(M.S k).ed⟩:=by rw[←hw]
    have uW:ie k (M.S k)=CH 2 k (M.S k).op (M.S k).blk (M.S k).lev 0 (M.S k).ed:=by unfold ie;rw[hw];rfl
    have HA:=ae<|Af H3 oH hs;have Gz:=ae uW;unfold dW at HA;clear hs uW hw;go_upto_region 10 with(first|(go_at_call 41;refine HA.mono ?_;rintro e W7 ⟨A7,n7,m7,rfl,Ba,dL⟩;have bu:=dL.alloc (.cells (dW 2 k (M.S k).op (M.S k).blk (M.S k).lev (.slice A7 n7 m7)) 37);have H7:=ae<|H3.keep bu;have fC:=ae<|bn.trans bu;have ej:=ae<|mZ.keep bu;have vJ:=ae<|Ba.keep ((ag.aj az W7).alloc (.cells (dW 2 k (M.S k).op (M.S k).blk (M.S k).lev (.slice A7 n7 m7)) 37));obtain⟨X,e1,r1,d1⟩:=ej.out;have lH:=ae e1;have b5:=ae r1;have tI:=ae d1;have Ke:=aB (X.length≤4) (by(have h9:=EW.out;have h8:X.length=(dx M.S k).length:=jx;omega));clear bu Ba dL e1 r1 d1)|(at_builtin;refine ef _ rfl (.tmp 24) (.tmp 28) 40 37 rfl oC rfl aD Tryz.underlying40 W1.heap.size _ X.length _ (dW 2 k (M.S k).op (M.S k).blk (M.S k).lev (.slice A7 n7 m7)).toList rfl b5 ⟨W7.heap.size,0,none⟩ rfl rfl (cV W7 _ _) dS bR bQ fC.size ?_;intro v8 W8 h8 eT _;have kW:=ej.wr kZ.out;have nL:=ae<|bg.app (v':=undef) (CH 2 k (M.S k).op (M.S k).blk (M.S k).lev 0 (M.S k).ed,.slice A7 n7 m7) h8 lH (fun q hq=>(tI q hq).aA eT kW) (vJ.aA eT kW);have H8:=ae (H7.dC eT kW fun j hj e=>by have:=(ej.aq e).1;have:=iA.out j hj;omega);have ix:=ae<|fC.aC eT fun j hj=>.inr (ej.aq hj).1;obtain⟨A8,c8,e8,_,_⟩:=cz h8;subst e8;clear h8 eT kW));have HR:=aB (UpR Z K c a M W1 (.slice A8 (X.length+1) c8) (ah ((k:Int)+1)) W8) (⟨k+1,oH,by simp,by rw[kS oF.out,Gz.out];exact nL,H8,ix⟩);exact gE
  ·obtain rfl:k=cN c:=ao;go_wp2_with fail;go_ret;exact⟨_,rfl,CU.low (Nat.le_of_eq oK.symm),H2,(HJ.mono (S':=b6 a) fun k hk=>.inl mB).aC bf fun _ h=>h.elim⟩
end
end
def m0 (K:aZ):CM K.σ:=⟨K.s0,fun _=>none,u0,fun _=>EH,0,false,[]⟩
def CM.wE {σ:Type}(M:CM σ)(x:List nP):CM σ:={M with en:=x}
section
variable {σ:Type}{sp:eY σ}{c:aM}{n:Nat}{M:CM σ}
theorem ID (x:List nP)(b:Int):bG sp c n (M.wE x) b=(bG sp c n M b).wE x:=by
 unfold bG
 split<;>rfl
theorem Cu (h:M.en= [])(x:List nP)(i:Nat)(wr:Bool)(b:Int)(d:List Int):bB sp c n (M.wE x) i wr b d=(bB sp c n M i wr b d).wE (x ++ (bB sp c n M i wr b d).en):=by
 have e:(bG sp c n M b).en= []:=by
  unfold bG
  split
  ·exact h
  ·exact h
 unfold bB;rw[ID]
 by_cases hc:wr=false∧((bG sp c n M b).D b).isSome=true
 ·rw[if_pos hc,if_pos (show wr=false∧(((bG sp c n M b).wE x).D b).isSome=true from hc)];simp[CM.wE,h]
 ·rw[if_neg hc,if_neg (show¬(wr=false∧(((bG sp c n M b).wE x).D b).isSome=true)from hc)];simp[CM.wE,e]
theorem Ct (x:List nP)(i:Nat)(wr:Bool)(b:Int)(d:List Int):dK sp c n (M.wE x) i wr b d=dK sp c n M i wr b d:=by
 unfold dK;rw[ID];rfl
theorem IC (x:List nP)(b:Int)(d:List Int)(lev:Int):fZ sp c (M.wE x) b d lev=(fZ sp c M b d lev).wE x:=by
 unfold fZ
 split<;>rfl
theorem TN (b:Int)(d:List Int)(lev:Int):(fZ sp c M b d lev).en=M.en:=by
 unfold fZ
 split<;>rfl
theorem LK (x:List nP)(b:Int)(d:List Int):df sp c (M.wE x) b d=(df sp c M b d).wE x:=by
 unfold df;rw[IC,IC]
 repeat' split
 all_goals first|rfl|(rename_i h1 h2;exact absurd h1 h2)|(rename_i h1 h2;exact absurd h2 h1)
theorem LI (x:List nP)(b:Int)(d:List Int):ea sp c n (M.wE x) b d=ea sp c n M b d:=rfl
theorem wb (b:Int)(d:List Int):(df sp c M b d).en=M.en:=by
 unfold df
 repeat' split
 all_goals first|rfl|exact TN ..
theorem TR (x:List nP)(b:Int):fP sp (M.wE x) b=(fP sp M b).wE x:=by
 unfold fP
 by_cases h:(M.D b).isSome=true
 ·rw[if_pos h,if_pos (show((M.wE x).D b).isSome=true from h)];rfl
 ·rw[if_neg h,if_neg (show¬((M.wE x).D b).isSome=true from h)]
theorem FC (h:M.en= [])(x:List nP)(m:di)(d:List Int):kE (M.wE x) m d=(kE M m d).wE (x ++ (kE M m d).en):=by
 unfold kE CM.wE;simp[h]
theorem Eg (h:M.en= [])(x:List nP)(m:di)(d:List Int):bd sp c n (M.wE x) m d=(bd sp c n M m d).wE (x ++ (bd sp c n M m d).en):=by
 have e0:∀b,(fP sp M b).en= []:=fun b=>by
  unfold fP
  split
  ·exact h
  ·exact h
 have hm:M.wE x=M.wE (x ++ M.en):=by rw[h,List.append_nil]
 unfold bd
 by_cases h1:M.up=false∨eF m d.length=false
 ·rw[if_pos h1,if_pos (show(M.wE x).up=false∨eF m d.length=false from h1)];exact hm
 rw[if_neg h1,if_neg (show¬((M.wE x).up=false∨eF m d.length=false)from h1)]
 by_cases h2:m.f 0=7
 ·rw[if_pos h2,if_pos h2,TR,e0,List.append_nil]
 rw[if_neg h2,if_neg h2]
 by_cases h3:jP n M m=false
 ·rw[if_pos h3,if_pos (show jP n (M.wE x) m=false from h3)];exact hm
 rw[if_neg h3,if_neg (show¬jP n (M.wE x) m=false from h3)]
 by_cases h4:m.g=false
 ·rw[if_pos h4,if_pos h4];exact FC h x m d
 rw[if_neg h4,if_neg h4,FC h,LK,wb];rfl
theorem Ef (h:M.en= [])(x:List nP)(m:di)(d:List Int):bW sp c n (M.wE x) m d=bW sp c n M m d:=by
 unfold bW;rw[FC h,LI];rfl
theorem LF (hR:∀s b,sp.eE (sp.rem s b)≤sp.eE s){S:Nat→kY}(l:List (Int×Nat))(x:σ×(Int→Option (List Int))×List PM):sp.eE (vT sp n S l x).1≤sp.eE x.1:=by
 induction l generalizing x with
 |nil=>exact dm _
 |cons m l ih=>
  refine Nat.le_trans (ih (p8 sp n S x m)) ?_;unfold p8
  split
  ·split
   ·exact hR _ _
   ·exact dm _
  ·exact dm _
theorem zj (hR:∀s b,sp.eE (sp.rem s b)≤sp.eE s)(b:Int):sp.eE (bG sp c n M b).s≤sp.eE M.s:=by
 unfold bG
 split
 ·exact LF hR _ _
 ·exact dm _
theorem Jp (hR:∀s b,sp.eE (sp.rem s b)≤sp.eE s)(hU:∀s b,sp.eE (sp.use s b)≤sp.eE s+1)(i:Nat)(wr:Bool)(b:Int)(d:List Int):sp.eE (bB sp c n M i wr b d).s≤sp.eE M.s+1:=by
 have h1:=zj (c:=c) (n:=n) (M:=M) hR b;unfold bB
 split
 ·have:=hU (bG sp c n M b).s b
  show sp.eE (sp.use (bG sp c n M b).s b)≤_
  omega
 ·show sp.eE (bG sp c n M b).s≤_
  omega
theorem Pg (hA:∀s b,sp.eE (sp.add s b).1≤sp.eE s+1)(b:Int)(d:List Int)(lev:Int):sp.eE (fZ sp c M b d lev).s≤sp.eE M.s+1:=by
 unfold fZ
 split
 ·omega
 ·exact hA _ _
theorem Jn (hA:∀s b,sp.eE (sp.add s b).1≤sp.eE s+1)(b:Int)(d:List Int):sp.eE (df sp c M b d).s≤sp.eE M.s+1:=by
 unfold df
 repeat' split
 all_goals first|omega|exact Pg hA ..
theorem LH (hR:∀s b,sp.eE (sp.rem s b)≤sp.eE s)(hA:∀s b,sp.eE (sp.add s b).1≤sp.eE s+1)(m:di)(d:List Int):sp.eE (bd sp c n M m d).s≤sp.eE M.s+1:=by
 unfold bd
 repeat' split
 ·omega
 ·unfold fP
  split
  ·have:=hR M.s (m.f 5)
   show sp.eE (sp.rem M.s (m.f 5))≤_
   omega
  ·omega
 ·omega
 ·show sp.eE M.s≤_
  omega
 ·exact Jn hA (M:=kE M m d) _ _
theorem TP (b:Int)(d:List Int)(lev:Int):(fZ sp c M b d lev).S=M.S:=by
 unfold fZ
 split<;>rfl
theorem zl (b:Int)(d:List Int):(df sp c M b d).S=M.S:=by
 unfold df
 repeat' split
 all_goals first|rfl|exact TP ..
theorem Jm (b:Int)(d:List Int):(df sp c M b d).ops=M.ops:=by
 unfold df fZ
 repeat' split
 all_goals rfl
theorem BW (b:Int):(bG sp c n M b).S=M.S:=by
 unfold bG
 split<;>rfl
theorem TQ (m:di)(d:List Int):(bd sp c n M m d).S=M.S∨(jP n M m=true∧(bd sp c n M m d).S=aI M.S (m.f 2).toNat EH):=by
 unfold bd
 repeat' split
 ·exact .inl rfl
 ·refine .inl ?_;unfold fP
  split<;>rfl
 ·exact .inl rfl
 ·rename_i h _
  exact .inr ⟨by simpa using h,rfl⟩
 ·rename_i h _
  exact .inr ⟨by simpa using h,by rw[zl];rfl⟩
theorem Cs (m:di)(d:List Int):(bd sp c n M m d).ops=M.ops:=by
 unfold bd
 repeat' split
 ·rfl
 ·unfold fP
  split<;>rfl
 ·rfl
 ·rfl
 ·rw[Jm];rfl
theorem Pk (i:Nat)(wr:Bool)(b:Int)(d:List Int):(bB sp c n M i wr b d).S=M.S∨(bB sp c n M i wr b d).S=aI M.S i ⟨(M.ops+1:Nat),b,b9 c M.U b,wr,if wr=true then d else[]⟩:=by
 unfold bB
 split
 ·exact .inl (BW b)
 ·exact .inr rfl
theorem uc (i:Nat)(wr:Bool)(b:Int)(d:List Int):(bB sp c n M i wr b d).ops=M.ops+1:=by
 unfold bB
 split<;>rfl
def Bo (c:aM)(S:Nat→kY):Prop:=∀j,j<cN c→(S j).op≠0→0≤(S j).blk∧(S j).blk<c.f 2
theorem Bo.upd {S:Nat→kY}(h:Bo c S){i:Nat}{s:kY}(hs:s.op≠0→0≤s.blk∧s.blk<c.f 2):Bo c (aI S i s):=fun j hj h0=>by
 unfold aI at h0 ⊢
 split at h0
 ·rename_i e
  rw[if_pos e];exact hs h0
 ·rename_i e
  rw[if_neg e];exact h j hj h0
theorem Bo.begin (h:Bo c M.S){i:Nat}{wr:Bool}{b:Int}{d:List Int}(h0:0≤b)(h1:b<c.f 2):Bo c (bB sp c n M i wr b d).S:=by
 rcases Pk (sp:=sp) (c:=c) (n:=n) (M:=M) i wr b d with e|e
 ·rw[e];exact h
 ·rw[e];exact h.upd fun _=>⟨h0,h1⟩
theorem Bo.aaC (h:Bo c M.S){m:di}{d:List Int}:Bo c (bd sp c n M m d).S:=by
 rcases TQ (sp:=sp) (c:=c) (n:=n) (M:=M) m d with e|⟨_,e⟩
 ·rw[e];exact h
 ·rw[e];exact h.upd fun h0=>absurd rfl h0
theorem we (h:M.en= [])(i:Nat)(wr:Bool)(b:Int)(d:List Int):(bB sp c n M i wr b d).en.length≤1:=by
 have e:(bG sp c n M b).en= []:=by
  unfold bG
  split
  ·exact h
  ·exact h
 unfold bB
 split
 ·show(M.en ++ [_]).length≤1
  rw[h];exact dm _
 ·show(bG sp c n M b).en.length≤1
  rw[e];exact dT _
theorem zk (h:M.en= [])(m:di)(d:List Int):(bd sp c n M m d).en.length≤1:=by
 unfold bd
 repeat' split
 ·rw[h];exact dT _
 ·unfold fP
  split
  ·show M.en.length≤1
   rw[h];exact dT _
  ·rw[h];exact dT _
 ·rw[h];exact dT _
 ·show(M.en ++ [_]).length≤1
  rw[h];exact dm _
 ·rw[wb]
  show(M.en ++ [_]).length≤1
  rw[h];exact dm _
theorem nu {S:Nat→kY}{b lev:Int}{d:List Int}:∀p∈eZ n S b lev d,p.m.f 0=3∧p.m.f 5=b∧CI n S b=false:=fun p hp=>by
 unfold eZ at hp
 split at hp
 ·cases hp
 ·rename_i h
  rw[List.mem_singleton]at hp;subst hp;exact⟨rfl,rfl,by simpa using h⟩
theorem LD {S:Nat→kY}(l:List (Int×Nat))(x:σ×(Int→Option (List Int))×List PM)(hx:∀p∈x.2.2,p.m.f 0=3∧CI n S (p.m.f 5)=false∧∃y:Int×Nat,y∈l∧p.m.f 5=y.1)(l2:List (Int×Nat))(hl:∀y∈l2,y∈l):
 ∀p∈(vT sp n S l2 x).2.2,p.m.f 0=3∧CI n S (p.m.f 5)=false∧∃y:Int×Nat,y∈l∧p.m.f 5=y.1:=by
 induction l2 generalizing x with
 |nil=>exact hx
 |cons m l2 ih=>
  refine ih (p8 sp n S x m) ?_ fun y hy=>hl y (List.mem_cons_of_mem _ hy)
  unfold p8
  split
  ·split
   ·intro p hp;rcases List.mem_append.1 hp with hp|hp
    ·exact hx p hp
    ·obtain⟨h1,h2,h3⟩:=nu p hp;exact⟨h1,by rw[h2];exact h3,m,hl m (List.mem_cons_self ..),h2⟩
   ·exact hx
  ·exact hx
theorem Ik {cap:Nat→Int}(ox:∀l,1≤l→l≤3→1≤cap l){b:Int}{t:List Int}:∀(f:Nat) (S:US) (l:Nat) (m:List (Int×Nat)),1≤l→S.L=b :: t→(b :: t).Nodup→S.v b≤l→(∀x∈m,x.1≠b)→∀x∈(eX cap f S l m).2,x.1≠b
 |0,S,l,m,_,_,_,_,hm=>hm
 |f+1,S,l,m,h1,hL,hn,hv,hm=>by
  unfold eX
  split
  ·rename_i hc
   have jU:=ox l h1 ao;have hne:eB (iU S l)≠b:=by
    intro e;have kX:1<(iU S l).length:=by have:=hc.2;unfold gg at this;omega
    have ig:eB (iU S l)∈iU S l:=xM fun e=>by rw[e]at kX;simp at kX
    have EJ:S.v b=l:=by
     rw[e]at ig;exact of_decide_eq_true (List.mem_filter.1 ig).2
    have hul:iU S l=b :: t.filter fun y=>decide (S.v y=l):=by
     unfold iU;rw[hL,List.filter_cons_of_pos (by simpa using EJ)]
    have htn:(t.filter fun y=>decide (S.v y=l))≠[]:=fun e=>by rw[hul,e]at kX;simp at kX
    rw[hul,ff,if_neg htn]at e;have:=xM htn;rw[e]at this;exact(List.nodup_cons.1 hn).1 (List.mem_filter.1 this).1
   refine Ik ox f _ (l+1) _ ao hL hn ?_ ?_
   ·show aT S.v _ _ b≤_
    unfold aT;rw[if_neg (Ne.symm hne)];omega
   ·intro x hx;rcases List.mem_append.1 hx with hx|hx
    ·exact hm x hx
    ·rw[List.mem_singleton]at hx;subst hx;exact hne
  ·exact hm
theorem Wl {cap:Nat→Int}(ox:∀l,1≤l→l≤3→1≤cap l){S:US}(hS:jQ S){b:Int}:∀x∈(gV cap S b).2.2,x.1≠b:=by
 have h1:=ux cap S b;refine Ik ox 4 (oN S b (ek cap S b)) (ek cap S b) [] h1.1 (t:=S.L.erase b) rfl (List.nodup_cons.2 ⟨fun e=>(hS.nodup.mem_erase_iff.1 e).1 rfl,hS.nodup.erase b⟩) ?_ fun x hx=>by cases hx
 show aT S.v b _ b≤_
 unfold aT;rw[if_pos rfl];exact Int.le_refl _
theorem PT (h:cK c):∀l,1≤l→l≤3→1≤dF c l:=fun l h1 h3=>by
 have q0:=h.pc 0 aD;have q1:=h.pc 1 aD;have q2:=h.pc 2 aD;simp only[Nat.add_zero,show 9+1=10 from rfl,show 9+2=11 from rfl]at q0 q1 q2;rcases(show l=1∨l=2∨l=3 by omega)with rfl|rfl|rfl
 ·show 1≤c.f 9;omega
 ·show 1≤c.f 10;omega
 ·show 1≤c.f 11;omega
theorem Xh {S:Nat→kY}{i:Nat}{s:kY}{b:Int}(h:CI n S b=false)(hb:s.op=0∨s.blk≠b):CI n (aI S i s) b=false:=abH fun j hj ⟨h1,h2⟩=>by
 unfold aI at h1 h2
 split at h1
 ·rename_i e
  rw[if_pos e]at h2;rcases hb with hb|hb
  ·exact h1 hb
  ·exact hb h2
 ·rename_i e
  rw[if_neg e]at h2;have:=FD hj h1 h2;rw[h]at this
  cases this
theorem Pn (i:Nat)(s:kY):(ie i s).m.f 0≠3:=by
 unfold ie
 split
 ·show(2:Int)≠3;decide
 ·show(1:Int)≠3;decide
theorem Ee (hP:cK c)(hU:jQ M.U)(b:Int):∀p∈iY sp c n M b,p.m.f 0=3∧CI n M.S (p.m.f 5)=false∧p.m.f 5≠b∧c.f 4=2:=fun p hp=>by
 unfold iY at hp
 split at hp
 ·rename_i h5
  obtain⟨h1,h2,y,hy,h3⟩:=LD (sp:=sp) (gV (dF c) M.U b).2.2 (M.s,M.D,[]) (fun p hp=>by cases hp) _ (fun y h=>h) p hp;exact⟨h1,h2,by rw[h3];exact Wl (PT hP) hU y hy,by have:=hP.pp;omega⟩
 ·cases hp
theorem Jo (hP:cK c)(hU:jQ M.U)(i:Nat)(wr:Bool)(b:Int)(d:List Int):∀p∈dK sp c n M i wr b d,p.m.f 0=3→CI n (bB sp c n M i wr b d).S (p.m.f 5)=false∧c.f 4=2:=fun p hp h3=>by
 unfold dK at hp;unfold bB
 by_cases h:wr=false∧((bG sp c n M b).D b).isSome=true
 ·rw[if_pos h]at hp ⊢;obtain⟨_,h1,_,h2⟩:=Ee hP hU b p hp;exact⟨by show CI n (bG sp c n M b).S _=false;rw[BW];exact h1,h2⟩
 ·rw[if_neg h]at hp ⊢;rcases List.mem_append.1 hp with hp|hp
  ·obtain⟨_,h1,h4,h2⟩:=Ee hP hU b p hp;exact⟨Xh h1 (.inr (Ne.symm h4)),h2⟩
  ·split at hp
   ·rw[List.mem_singleton]at hp;subst hp;exact absurd h3 (Pn _ _)
   ·cases hp
theorem Ed (b:Int)(d:List Int)(lev:Int):∀p∈mG sp c n M b d lev,CI n M.S (p.m.f 5)=false∧c.f 4=2:=fun p hp=>by
 unfold mG at hp
 split at hp
 ·cases hp
 ·split at hp
  ·rename_i h
   obtain⟨_,h1,h2⟩:=nu p hp;exact⟨by rw[h1];exact h2,h.2⟩
  ·cases hp
theorem Jl (hP:cK c)(b:Int)(d:List Int):∀p∈ea sp c n M b d,CI n M.S (p.m.f 5)=false∧c.f 4=2:=fun p hp=>by
 unfold ea at hp
 split at hp
 ·rename_i h5
  split at hp
  ·obtain⟨_,h1,h2⟩:=nu p hp;exact⟨by rw[h1];exact h2,by have:=hP.pp;omega⟩
  ·exact Ed _ _ _ p hp
 ·exact Ed _ _ _ p hp
theorem Cr (hP:cK c)(m:di)(d:List Int):∀p∈bW sp c n M m d,p.m.f 0=3→CI n (bd sp c n M m d).S (p.m.f 5)=false∧c.f 4=2:=fun p hp h3=>by
 unfold bW at hp;unfold bd
 split at hp
 ·cases hp
 rename_i h1
 rw[if_neg h1]
 split at hp
 ·rw[List.mem_singleton]at hp;subst hp;exact absurd h3 (by show(4:Int)≠3;decide)
 rename_i h2
 rw[if_neg h2]
 split at hp
 ·cases hp
 rename_i h4
 rw[if_neg h4]
 split at hp
 ·cases hp
 rename_i h5
 rw[if_neg h5,zl];exact Jl hP _ _ p hp
theorem Cq (b:Int)(d:List Int)(lev:Int):∀p∈mG sp c n M b d lev,p.m.f 0=3:=fun p hp=>by
 unfold mG at hp
 split at hp
 ·cases hp
 ·split at hp
  ·exact(nu p hp).1
  ·cases hp
theorem FT (b:Int)(d:List Int):∀p∈ea sp c n M b d,p.m.f 0=3:=fun p hp=>by
 unfold ea at hp
 split at hp
 ·split at hp
  ·exact(nu p hp).1
  ·exact Cq _ _ _ p hp
 ·exact Cq _ _ _ p hp
theorem LG (m:di)(d:List Int):∀p∈bW sp c n M m d,p.m.f 0=4→(bd sp c n M m d).D (m.f 5)=none:=fun p hp h4=>by
 unfold bW at hp;unfold bd
 split at hp
 ·cases hp
 rename_i h1
 rw[if_neg h1]
 split at hp
 ·rename_i h2
  rw[if_pos h2];unfold fP
  by_cases h3:(M.D (m.f 5)).isSome=true
  ·rw[if_pos h3]
   show aT M.D (m.f 5) none (m.f 5)=none
   unfold aT;rw[if_pos rfl]
  ·rw[if_neg h3]
   cases e:M.D (m.f 5)with
   |none=>rfl
   |some l=>rw[e]at h3;exact absurd rfl h3
 rename_i h2
 split at hp
 ·cases hp
 split at hp
 ·cases hp
 have:=FT _ _ p hp;omega
end
end Go.Proofs.YtchofaecncibjaaGreat

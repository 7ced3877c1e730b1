/- Lemmas. -/
import Derived.Test.YtchofaecncibjaaGreatM40
import Derived.Test.YtchofaecncibjaaGreatM42
set_option linter.all false
set_option maxHeartbeats 20000000
set_option maxRecDepth 100000
namespace Go.Proofs.YtchofaecncibjaaGreat
open Go.ChangeShapes Go.RowKit Go.WideShapes
def tO {K:aZ}{c:aM}(Z:ZN)(o:cJ K c 0)(a:kK)(M:CM K.σ)(m:di)(d:List Int)(w:World)(e:Ending)(w':World):Prop:=
 ∃v a' uO,e= .returned v∧bg Z w' w.heap.size v (bW K.sp c (cN c) M m d)∧bA Z o a' (bd K.sp c (cN c) M m d) uO w'∧vO o a a' w w'
section
variable {K:aZ}{c:aM}{Z:ZN}{w w':World}{o:cJ K c 0}{a:kK}{M:CM K.σ}{Dr:Nat→List Int}
theorem vO.refl (ho:ag (cR o a) w w'):vO o a a w w':=⟨rfl,rfl,rfl,fun _ h=>.inl h,ho⟩
theorem D5 (h:bA Z o a M Dr w){m:di}{v:Value}{d:List Int}(hd:cX Z w v d)(hn:M.up=false∨eF m d.length=false):
 Calls Tryz.prog 17 #[aO a.x,.agg (aP m v)] w (tO Z o a M m d w):=by
 have hm:bd K.sp c (cN c) M m d=M:=by unfold bd;rw[if_pos hn]
 have ht:bW K.sp c (cN c) M m d= []:=by unfold bW;rw[if_pos hn]
 have HM:=ae hm;have HT:=ae ht;obtain⟨A,q,rfl⟩:=hd.shape;have bu:ag az w (w.alloc (.cells (aP m (.slice A d.length q)) 37)):=(ag.aj az w).alloc _;have bL:=ae<|fun k (hk:cR o a k)=>h.kB hk;have iA:=ae<|fun k (hk:mL o a k)=>h.uU hk;have kZ:=ae h.zb;have HB:=ae<|Box.fresh w 37 (aP m (.slice A d.length q));have HO:=ae<|bu.mono (S':=cR o a) fun k hk=>hk.elim;have H:=ae<|h.keep bu;have HD:=ae<|hd.keep bu;have HR:=ae<|fun(w':World)=>jI m A d.length q w';clear h hd bu hm ht;unfold aP at HR
 go_enter Tryz.func17,Tryz.ntmps17
 go_upto_region 1 with fail;change Code.wp _ _ _ _ (w.alloc (.cells (aP m (.slice A d.length q)) 37));have fh:=aB (∀k,mL o a k→k≠w.heap.size) (fun k hk e=>by have:=iA.out k hk;omega);have kM:=aB (w.heap.size<(w.alloc (.cells (aP m (.slice A d.length q)) 37)).heap.size) bh;generalize w.alloc (.cells (aP m (.slice A d.length q)) 37)=W at *;obtain⟨mb,fW⟩:∃mb,mb=w.heap.size:=⟨_,rfl⟩;have pG:=aB (w.heap.size≤mb) (Nat.le_of_eq fW.symm);rw[←fW]at HB fh kM ⊢;clear fW;have x0:aw W mb 0 (m.f 0):=HB.af rfl;have x1:aw W mb 1 (m.f 1):=HB.af rfl;have x2:aw W mb 2 (m.f 2):=HB.af rfl;have x3:aw W mb 3 (m.f 3):=HB.af rfl;have x4:aw W mb 4 (m.f 4):=HB.af rfl;have x5:aw W mb 5 (m.f 5):=HB.af rfl;have x6:aw W mb 6 (m.f 6):=HB.af rfl;have x7:aw W mb 7 (m.f 7):=HB.af rfl;have x8:aw W mb 8 (m.f 8):=HB.af rfl;have x9:aE W mb 9 (.bool m.g):=HB.af rfl;have vx:aE W mb 10 (.slice A d.length q):=HB.af rfl;have kz:=H.yh
 cases fK:M.up with
 |false=>
  rw[fK]at kz;go_wp2;go_ret;exact⟨_,a,Dr,rfl,by rw[HT.out];exact bg.nil _ _ _,by rw[HM.out];exact H,vO.refl HO⟩
 |true=>
  rw[fK]at kz;have hb:eF m d.length=false:=by
   rcases hn with e|e
   ·rw[fK]at e;cases e
   ·exact e
  rw[hb]at HR;clear hn;go_wp2_with (go_at_call 52;refine(HR W).mono ?_;rintro e W1 ⟨rfl,aR⟩;have aX:=ae aR;clear aR);go_ret;exact⟨_,a,Dr,rfl,by rw[HT.out];exact bg.nil _ _ _,by rw[HM.out];exact H.keep aX,vO.refl (HO.aC aX fun _ h=>h.elim)⟩
theorem OI (h:bA Z o a M Dr w){m:di}{v:Value}{d:List Int}(hd:cX Z w v d)(fK:M.up=true)(hb:eF m d.length=true)(h7:m.f 0=7):
 Calls Tryz.prog 17 #[aO a.x,.agg (aP m v)] w (tO Z o a M m d w):=by
 have hn:¬(M.up=false∨eF m d.length=false):=by rw[fK,hb];simp
 have hm:bd K.sp c (cN c) M m d=fP K.sp M (m.f 5):=by unfold bd;rw[if_neg hn,if_pos h7]
 have ht:bW K.sp c (cN c) M m d= [CH 4 0 0 (m.f 5) 0 (m.f 7) []]:=by unfold bW;rw[if_neg hn,if_pos h7]
 have HM:=ae hm;have HT:=ae ht;have Kb:(m.f 0==7)=true:=by simpa using h7
 obtain⟨A,q,rfl⟩:=hd.shape;have bu:ag az w (w.alloc (.cells (aP m (.slice A d.length q)) 37)):=(ag.aj az w).alloc _;have bL:=ae<|fun k (hk:cR o a k)=>h.kB hk;have iA:=ae<|fun k (hk:mL o a k)=>h.uU hk;have kZ:=ae h.zb;have HB:=ae<|Box.fresh w 37 (aP m (.slice A d.length q));have HO:=ae<|bu.mono (S':=cR o a) fun k hk=>hk.elim;have H:=ae<|h.keep bu;have HD:=ae<|hd.keep bu;have HR:=ae<|fun(w':World)=>jI m A d.length q w';rw[hb]at HR;clear h hd bu hm ht hn hb h7;unfold aP at HR
 go_enter Tryz.func17,Tryz.ntmps17
 go_upto_region 1 with fail;change Code.wp _ _ _ _ (w.alloc (.cells (aP m (.slice A d.length q)) 37));have fh:=aB (∀k,mL o a k→k≠w.heap.size) (fun k hk e=>by have:=iA.out k hk;omega);have kM:=aB (w.heap.size<(w.alloc (.cells (aP m (.slice A d.length q)) 37)).heap.size) bh;generalize w.alloc (.cells (aP m (.slice A d.length q)) 37)=W at *;obtain⟨mb,fW⟩:∃mb,mb=w.heap.size:=⟨_,rfl⟩;have pG:=aB (w.heap.size≤mb) (Nat.le_of_eq fW.symm);rw[←fW]at HB fh kM ⊢;clear fW;have x0:aw W mb 0 (m.f 0):=HB.af rfl;have x1:aw W mb 1 (m.f 1):=HB.af rfl;have x2:aw W mb 2 (m.f 2):=HB.af rfl;have x3:aw W mb 3 (m.f 3):=HB.af rfl;have x4:aw W mb 4 (m.f 4):=HB.af rfl;have x5:aw W mb 5 (m.f 5):=HB.af rfl;have x6:aw W mb 6 (m.f 6):=HB.af rfl;have x7:aw W mb 7 (m.f 7):=HB.af rfl;have x8:aw W mb 8 (m.f 8):=HB.af rfl;have x9:aE W mb 9 (.bool m.g):=HB.af rfl;have vx:aE W mb 10 (.slice A d.length q):=HB.af rfl;have kz:=H.yh;rw[fK]at kz;go_upto_region 3 with(go_at_call 52;refine(HR W).mono ?_;rintro e W1 ⟨rfl,aR⟩;have aX:=ae aR;clear aR);have y0:=aX.cell x0 id;have bU:=ae<|aX.aq HB id;have H1:=ae<|H.keep aX;have bf:=ae<|HO.aC aX fun _ h=>h.elim;clear x0 x1 x2 x3 x4 x5 x6 x7 x8 x9 vx kz H HB HO;go_upto_region 4 with fail;clear y0;have k0:aE W1.drew a.x 17 (aO a.r.cb):=H1.mD;have k1:aw W1.drew mb 5 (m.f 5):=bU.af rfl;go_upto_region 4 with fail;refine dU (fun w':World=>aE w' a.x 17 (aO a.r.cb)∧aw w' mb 5 (m.f 5)) 6 fun aH=>?_
 refine bX [0,1,2,3,4,5] ?_;refine cG ?_;clear aH k0 k1;have QB:=ae<|OQ (H1.keep ((ag.aj az W1).drew)) (m.f 5);go_upto_region 5 with(go_at_call 44;refine QB.mono ?_;rintro e W2 ⟨b2,A2,n2,m2,rfl,kX,bp⟩);have H2:=ae kX;have cO:=ae<|bp.aq bU.drew fun e=>fh _ (.inl (.inl e)) rfl;have bn:=ae<|(bf.drew).aC bp fun k hk=>.inl (.inl hk);clear kX bp QB;have y5:aw W2 mb 5 (m.f 5):=cO.af rfl;have y7:aw W2 mb 7 (m.f 7):=cO.af rfl;go_wp2;go_ret;have Df:ag az W2 (W2.alloc (.cells (aaQ (m.f 5) (m.f 7) aJ) 37)):=(ag.aj az W2).alloc _;exact⟨_,a,Dr,rfl,by rw[HT.out];exact bg.one (CH 4 0 0 (m.f 5) 0 (m.f 7) []) (v:=aJ) (Nx _ _ _ _) (cX.nil _ _) rfl bn.size,by rw[HM.out];exact H2.keep Df,vO.refl (bn.aC Df fun _ h=>h.elim)⟩
theorem I9 (h:bA Z o a M Dr w){m:di}{v:Value}{d:List Int}(hd:cX Z w v d)(fK:M.up=true)(hb:eF m d.length=true)(h5:m.f 0≠5)(h6:m.f 0≠6)(h7:m.f 0≠7):
 Calls Tryz.prog 17 #[aO a.x,.agg (aP m v)] w (tO Z o a M m d w):=by
 have hn:¬(M.up=false∨eF m d.length=false):=by rw[fK,hb];simp
 have ha:jP (cN c) M m=false:=by unfold jP;rw[decide_eq_false h5,decide_eq_false h6];rfl
 have hm:bd K.sp c (cN c) M m d=M:=by unfold bd;rw[if_neg hn,if_neg h7,if_pos ha]
 have ht:bW K.sp c (cN c) M m d= []:=by unfold bW;rw[if_neg hn,if_neg h7,if_pos ha]
 have HM:=ae hm;have HT:=ae ht;have QZ:(m.f 0 != 5)=true:=by simpa using h5
 have QY:(m.f 0 != 6)=true:=by simpa using h6
 have Kb:(m.f 0==7)=false:=by simpa using h7
 obtain⟨A,q,rfl⟩:=hd.shape;have bu:ag az w (w.alloc (.cells (aP m (.slice A d.length q)) 37)):=(ag.aj az w).alloc _;have bL:=ae<|fun k (hk:cR o a k)=>h.kB hk;have iA:=ae<|fun k (hk:mL o a k)=>h.uU hk;have kZ:=ae h.zb;have HB:=ae<|Box.fresh w 37 (aP m (.slice A d.length q));have HO:=ae<|bu.mono (S':=cR o a) fun k hk=>hk.elim;have H:=ae<|h.keep bu;have HD:=ae<|hd.keep bu;have HR:=ae<|fun(w':World)=>jI m A d.length q w';rw[hb]at HR;clear h hd bu hm ht hn ha h5 h6 h7 hb;unfold aP at HR
 go_enter Tryz.func17,Tryz.ntmps17
 go_upto_region 1 with fail;change Code.wp _ _ _ _ (w.alloc (.cells (aP m (.slice A d.length q)) 37));have fh:=aB (∀k,mL o a k→k≠w.heap.size) (fun k hk e=>by have:=iA.out k hk;omega);have kM:=aB (w.heap.size<(w.alloc (.cells (aP m (.slice A d.length q)) 37)).heap.size) bh;generalize w.alloc (.cells (aP m (.slice A d.length q)) 37)=W at *;obtain⟨mb,fW⟩:∃mb,mb=w.heap.size:=⟨_,rfl⟩;have pG:=aB (w.heap.size≤mb) (Nat.le_of_eq fW.symm);rw[←fW]at HB fh kM ⊢;clear fW;have x0:aw W mb 0 (m.f 0):=HB.af rfl;have x1:aw W mb 1 (m.f 1):=HB.af rfl;have x2:aw W mb 2 (m.f 2):=HB.af rfl;have x3:aw W mb 3 (m.f 3):=HB.af rfl;have x4:aw W mb 4 (m.f 4):=HB.af rfl;have x5:aw W mb 5 (m.f 5):=HB.af rfl;have x6:aw W mb 6 (m.f 6):=HB.af rfl;have x7:aw W mb 7 (m.f 7):=HB.af rfl;have x8:aw W mb 8 (m.f 8):=HB.af rfl;have x9:aE W mb 9 (.bool m.g):=HB.af rfl;have vx:aE W mb 10 (.slice A d.length q):=HB.af rfl;have kz:=H.yh;rw[fK]at kz;go_upto_region 3 with(go_at_call 52;refine(HR W).mono ?_;rintro e W1 ⟨rfl,aR⟩;have aX:=ae aR;clear aR);have y0:=aX.cell x0 id;have y2:=aX.cell x2 id;have y4:=aX.cell x4 id;have bU:=ae<|aX.aq HB id;have H1:=ae<|H.keep aX;have jL:=ae<|HD.keep aX;have bf:=ae<|HO.aC aX fun _ h=>h.elim;clear x0 x1 x2 x3 x4 x5 x6 x7 x8 x9 vx kz H HB HO HD;have jZ:=H1.pw;go_upto_region 6 with fail;have d0:aw W1.drew mb 0 (m.f 0):=y0;have d1:aw W1.drew mb 2 (m.f 2):=y2;have d2:aw W1.drew mb 4 (m.f 4):=y4;have d3:aE W1.drew a.x 19 (aU a.a8 (cN c) (cN c)):=jZ;go_upto_region 6 with fail;refine dU (fun w':World=>aw w' mb 0 (m.f 0)∧aw w' mb 2 (m.f 2)∧aw w' mb 4 (m.f 4)∧aE w' a.x 19 (aU a.a8 (cN c) (cN c))) 22 fun aH=>?_
 refine yd [0,1,2,3,4,5,6,7,8,9,10,11,12,13,14,15,16,17,18,19,20,21] ?_;refine cG ?_;clear aH d0 d1 d2 d3;go_wp2;go_ret;exact⟨_,a,Dr,rfl,by rw[HT.out];exact bg.nil _ _ _,by rw[HM.out];exact H1.keep ((ag.aj az W1).drew),vO.refl bf.drew⟩
theorem lS{P:Prop}(h:P:=by
 have u0:aw W6 mb 0 (m.f 0):=kI.af rfl;have u4:aw W6 mb 4 (m.f 4):=kI.af rfl;go_wp2;go_ret;exact⟨_,a,Dr,rfl,by rw[HT.out];exact bg.nil _ _ _,by rw[HM.out];exact H6,vO.refl cZ⟩):P:=h
theorem eK{P:Prop}(h:P:=by rw[show j=tb from hj];exact lF.1):P:=h
theorem rH{P:Prop}(h:P:=by
 refine cG ?_;clear aH d0 d1 d2 d3;go_upto_region 8 with fail;have d0:aE W1.drew.drew a.x 19 (aU a.a8 (cN c) (cN c)):=jZ;have d1:aw W1.drew.drew mb 2 k:=y2;have d2:aw W1.drew.drew a.a8 (k*5) ((M.S k).op):=z0;have d3:aw W1.drew.drew a.a8 (k*5+1) ((M.S k).blk):=z1;have d4:aw W1.drew.drew a.a8 (k*5+2) ((M.S k).lev):=z2;have d5:aE W1.drew.drew a.a8 (k*5+3) (.bool (M.S k).wr):=z3;have d6:aE W1.drew.drew a.a8 (k*5+4) (.slice Ad nd md):=z4;go_upto_region 8 with fail;refine dU (fun w':World=>aE w' a.x 19 (aU a.a8 (cN c) (cN c))∧aw w' mb 2 k∧aw w' a.a8 (k*5) ((M.S k).op)∧aw w' a.a8 (k*5+1) ((M.S k).blk)∧aw w' a.a8 (k*5+2) ((M.S k).lev)∧aE w' a.a8 (k*5+3) (.bool (M.S k).wr)∧aE w' a.a8 (k*5+4) (.slice Ad nd md)) 9 fun aH=>?_
 refine bX [0,1,2,3,4,5,6,7] ?_;refine cM 8 fun Kc hK=>?_
 go_simp;have dq:ag az W1 (W1.drew.drew.alloc (.cells jY 54)):=(((ag.aj az W1).drew).drew).alloc _;have jX:=aB (Box (W1.drew.drew.alloc (.cells jY 54)) W1.heap.size 54 jY) (Box.fresh W1.drew.drew 54 jY);have H5:=ae<|H1.keep dq;have iG:=ae<|dq.aq bU id;have vg:=ae<|jL.keep dq;have bM:=ae<|bf.aC dq fun _ h=>h.elim;have lF:=aB (w.heap.size≤W1.heap.size∧mb≠W1.heap.size) (⟨bf.size,fun e=>by have:=bU.lt;omega⟩);have e0:=dq.cell jZ id;have e1:=dq.cell y2 id;have e2:=dq.cell z0 id;have e3:=dq.cell z1 id;have e4:=dq.cell z2 id;have e5:=dq.cell z3 id;have e6:=dq.cell z4 id;change Kc _ (W1.drew.drew.alloc (.cells jY 54));clear dq
 try rw[show W1.drew.drew.heap.size=W1.heap.size from rfl]
 generalize W1.drew.drew.alloc (.cells jY 54)=W5 at *;generalize W1.heap.size=tb at *;refine eh hK fun aH=>?_
 clear hK;refine cG ?_;clear aH d0 d1 d2 d3 d4 d5 d6 e0 e1 e2 e3 e4 e5 e6;go_upto_region 9 with(refine fJ #[ah (M.S k).op,ah (M.S k).blk,ah (M.S k).lev,.bool (M.S k).wr,.slice Ad nd md] jX a6 ?_);have j6:ag (ar tb) W5 (W5.setRow tb #[ah (M.S k).op,ah (M.S k).blk,ah (M.S k).lev,.bool (M.S k).wr,.slice Ad nd md]):=(ag.aj (ar tb) W5).au (.inl rfl) _;have iL:Wr Z (ar tb) W5:=fun j hj e=>by rw[show j=tb from e];exact⟨Nat.le_trans kZ lF.1,.inr fun cs hb=>(jX.off hb aD) rfl⟩
 have tq:=ae<|jX.au #[ah (M.S k).op,ah (M.S k).blk,ah (M.S k).lev,.bool (M.S k).wr,.slice Ad nd md];have H6:=ae<|H5.dC j6 iL (fun j hj e=>by have:=iA.out j hj;have:=lF.1;have e:j=tb:=e;omega) fun j hj=>⟨_,_,(show j=tb from hj)▸jX.out,aD,aD,aD⟩;have kI:=ae<|j6.aq iG fun e=>lF.2 (show mb=tb from e);have oo:=ae<|vg.aA j6 iL;have cZ:=ae<|bM.aC j6 fun j hj=>.inr eK;clear j6 iL jX H5 iG vg bM;generalize W5.setRow tb #[ah (M.S k).op,ah (M.S k).blk,ah (M.S k).lev,.bool (M.S k).wr,.slice Ad nd md]=W6 at *;have t0:aw W6 tb 0 ((M.S k).op):=tq.af rfl;have t3:aE W6 tb 3 (.bool (M.S k).wr):=tq.af rfl;exact lS):P:=h
theorem rM{P:Prop}(h:P:=by
 refine cG ?_;clear aH d0 d1 d2 d3;go_wp2;go_ret;exact⟨_,a,Dr,rfl,by rw[HT.out];exact bg.nil _ _ _,by rw[HM.out];exact H1.keep ((ag.aj az W1).drew),vO.refl bf.drew⟩):P:=h
theorem ss{P:Prop}(h:P:=by
 refine yd [0,1,2,3,4,5,6,7,8,9,10,11,12,13,14,15,16,17,18,19,20,21] ?_;exact rM):P:=h
theorem qQ{P:Prop}(h:P:=by
 have s1':decide ((cN c:Int)≤m.f 2)=true:=decide_eq_true s1;go_upto_region 6 with fail;have d0:aw W1.drew mb 0 (m.f 0):=y0;have d1:aw W1.drew mb 2 (m.f 2):=y2;have d2:aw W1.drew mb 4 (m.f 4):=y4;have d3:aE W1.drew a.x 19 (aU a.a8 (cN c) (cN c)):=jZ;go_upto_region 6 with fail;refine dU (fun w':World=>aw w' mb 0 (m.f 0)∧aw w' mb 2 (m.f 2)∧aw w' mb 4 (m.f 4)∧aE w' a.x 19 (aU a.a8 (cN c) (cN c))) 22 fun aH=>?_
 exact ss):P:=h
theorem Lf (h:bA Z o a M Dr w){m:di}{v:Value}{d:List Int}(hd:cX Z w v d)(fK:M.up=true)(hb:eF m d.length=true)(h0:m.f 0=5)(ha:jP (cN c) M m=false):
 Calls Tryz.prog 17 #[aO a.x,.agg (aP m v)] w (tO Z o a M m d w):=by
 have hn:¬(M.up=false∨eF m d.length=false):=by rw[fK,hb];simp
 have hm:bd K.sp c (cN c) M m d=M:=by unfold bd;rw[if_neg hn,if_neg ao,if_pos ha]
 have ht:bW K.sp c (cN c) M m d= []:=by unfold bW;rw[if_neg hn,if_neg ao,if_pos ha]
 have HM:=ae hm;have HT:=ae ht;have HA:=ae ha;have Da:=ae h0;have hs:=iE hb;have QZ:(m.f 0 != 5)=false:=by rw[h0];decide
 have QY:(m.f 0 != 6)=true:=by rw[h0];decide
 have h6e:(m.f 0==6)=false:=by rw[h0];decide
 have Kb:(m.f 0==7)=false:=by rw[h0];decide
 obtain⟨A,q,rfl⟩:=hd.shape;have bu:ag az w (w.alloc (.cells (aP m (.slice A d.length q)) 37)):=(ag.aj az w).alloc _;have bL:=ae<|fun k (hk:cR o a k)=>h.kB hk;have iA:=ae<|fun k (hk:mL o a k)=>h.uU hk;have kZ:=ae h.zb;have HB:=ae<|Box.fresh w 37 (aP m (.slice A d.length q));have HO:=ae<|bu.mono (S':=cR o a) fun k hk=>hk.elim;have H:=ae<|h.keep bu;have HD:=ae<|hd.keep bu;have HR:=ae<|fun(w':World)=>jI m A d.length q w';rw[hb]at HR;have mX:=h.nn.2.1;clear h hd bu hm ht hn ha h0 hb;unfold aP at HR
 go_enter Tryz.func17,Tryz.ntmps17
 go_upto_region 1 with fail;change Code.wp _ _ _ _ (w.alloc (.cells (aP m (.slice A d.length q)) 37));have fh:=aB (∀k,mL o a k→k≠w.heap.size) (fun k hk e=>by have:=iA.out k hk;omega);have kM:=aB (w.heap.size<(w.alloc (.cells (aP m (.slice A d.length q)) 37)).heap.size) bh;generalize w.alloc (.cells (aP m (.slice A d.length q)) 37)=W at *;obtain⟨mb,fW⟩:∃mb,mb=w.heap.size:=⟨_,rfl⟩;have pG:=aB (w.heap.size≤mb) (Nat.le_of_eq fW.symm);rw[←fW]at HB fh kM ⊢;clear fW;have x0:aw W mb 0 (m.f 0):=HB.af rfl;have x1:aw W mb 1 (m.f 1):=HB.af rfl;have x2:aw W mb 2 (m.f 2):=HB.af rfl;have x3:aw W mb 3 (m.f 3):=HB.af rfl;have x4:aw W mb 4 (m.f 4):=HB.af rfl;have x5:aw W mb 5 (m.f 5):=HB.af rfl;have x6:aw W mb 6 (m.f 6):=HB.af rfl;have x7:aw W mb 7 (m.f 7):=HB.af rfl;have x8:aw W mb 8 (m.f 8):=HB.af rfl;have x9:aE W mb 9 (.bool m.g):=HB.af rfl;have vx:aE W mb 10 (.slice A d.length q):=HB.af rfl;have kz:=H.yh;rw[fK]at kz;go_upto_region 3 with(go_at_call 52;refine(HR W).mono ?_;rintro e W1 ⟨rfl,aR⟩;have aX:=ae aR;clear aR);have y0:=aX.cell x0 id;have y2:=aX.cell x2 id;have y4:=aX.cell x4 id;have bU:=ae<|aX.aq HB id;have H1:=ae<|H.keep aX;have jL:=ae<|HD.keep aX;have bf:=ae<|HO.aC aX fun _ h=>h.elim;clear x0 x1 x2 x3 x4 x5 x6 x7 x8 x9 vx kz H HB HO HD;have jZ:=H1.pw
 by_cases s1:(cN c:Int)≤m.f 2
 ·exact qQ
 obtain⟨k,hk⟩:∃k:Nat,m.f 2=k:=⟨(m.f 2).toNat,ao⟩;have oJ:k<cN c:=ao;have pr:(k:Int)<cN c:=ao;have U5:decide (cN c≤k)=false:=decide_eq_false ao;have EO:(0:Int)≤(k:Int):=Int.natCast_nonneg k;rw[hk]at y2
 by_cases o1:m.f 4=0
 ·have Qa:(m.f 4==0)=true:=by simpa using o1
  clear o1;go_upto_region 6 with fail;have d0:aw W1.drew mb 0 (m.f 0):=y0;have d1:aw W1.drew mb 2 k:=y2;have d2:aw W1.drew mb 4 (m.f 4):=y4;have d3:aE W1.drew a.x 19 (aU a.a8 (cN c) (cN c)):=jZ;go_upto_region 6 with fail;refine dU (fun w':World=>aw w' mb 0 (m.f 0)∧aw w' mb 2 k∧aw w' mb 4 (m.f 4)∧aE w' a.x 19 (aU a.a8 (cN c) (cN c))) 22 fun aH=>?_
  exact ss
 have Qa:(m.f 4==0)=false:=by simpa using o1
 obtain⟨Ad,nd,md,eD⟩:=H1.DD k oJ;obtain⟨z0,z1,z2,z3,z4⟩:=bJ H1.slots oJ eD
 by_cases o2:(M.S k).op=m.f 4
 ·have P9:((M.S k).op != m.f 4)=false:=by simpa using o2
  have w1:(M.S k).wr=true:=by
   exact je
  rw[w1]at z3;clear o1 o2 eD;go_upto_region 6 with fail;have d0:aw W1.drew mb 0 (m.f 0):=y0;have d1:aw W1.drew mb 2 k:=y2;have d2:aw W1.drew mb 4 (m.f 4):=y4;have d3:aE W1.drew a.x 19 (aU a.a8 (cN c) (cN c)):=jZ;go_upto_region 6 with fail;refine dU (fun w':World=>aw w' mb 0 (m.f 0)∧aw w' mb 2 k∧aw w' mb 4 (m.f 4)∧aE w' a.x 19 (aU a.a8 (cN c) (cN c))) 22 fun aH=>?_
  refine yd [0,1,2,3,4,5,6,7,8,9,10,11,12,13,14,15,16,17,18,19,20,21] ?_;refine cG ?_;clear aH d0 d1 d2 d3;go_upto_region 8 with fail;have d0:aE W1.drew.drew a.x 19 (aU a.a8 (cN c) (cN c)):=jZ;have d1:aw W1.drew.drew mb 2 k:=y2;have d2:aw W1.drew.drew a.a8 (k*5) ((M.S k).op):=z0;have d3:aw W1.drew.drew a.a8 (k*5+1) ((M.S k).blk):=z1;have d4:aw W1.drew.drew a.a8 (k*5+2) ((M.S k).lev):=z2;have d5:aE W1.drew.drew a.a8 (k*5+3) (.bool true):=z3;have d6:aE W1.drew.drew a.a8 (k*5+4) (.slice Ad nd md):=z4;go_upto_region 8 with fail;refine dU (fun w':World=>aE w' a.x 19 (aU a.a8 (cN c) (cN c))∧aw w' mb 2 k∧aw w' a.a8 (k*5) ((M.S k).op)∧aw w' a.a8 (k*5+1) ((M.S k).blk)∧aw w' a.a8 (k*5+2) ((M.S k).lev)∧aE w' a.a8 (k*5+3) (.bool true)∧aE w' a.a8 (k*5+4) (.slice Ad nd md)) 9 fun aH=>?_
  refine bX [0,1,2,3,4,5,6,7] ?_;refine cM 8 fun Kc hK=>?_
  go_simp;have dq:ag az W1 (W1.drew.drew.alloc (.cells jY 54)):=(((ag.aj az W1).drew).drew).alloc _;have jX:=aB (Box (W1.drew.drew.alloc (.cells jY 54)) W1.heap.size 54 jY) (Box.fresh W1.drew.drew 54 jY);have H5:=ae<|H1.keep dq;have iG:=ae<|dq.aq bU id;have vg:=ae<|jL.keep dq;have bM:=ae<|bf.aC dq fun _ h=>h.elim;have lF:=aB (w.heap.size≤W1.heap.size∧mb≠W1.heap.size) (⟨bf.size,fun e=>by have:=bU.lt;omega⟩);have e0:=dq.cell jZ id;have e1:=dq.cell y2 id;have e2:=dq.cell z0 id;have e3:=dq.cell z1 id;have e4:=dq.cell z2 id;have e5:=dq.cell z3 id;have e6:=dq.cell z4 id;change Kc _ (W1.drew.drew.alloc (.cells jY 54));clear dq
  try rw[show W1.drew.drew.heap.size=W1.heap.size from rfl]
  generalize W1.drew.drew.alloc (.cells jY 54)=W5 at *;generalize W1.heap.size=tb at *;refine eh hK fun aH=>?_
  clear hK;refine cG ?_;clear aH d0 d1 d2 d3 d4 d5 d6 e0 e1 e2 e3 e4 e5 e6;go_upto_region 9 with(refine fJ #[ah (M.S k).op,ah (M.S k).blk,ah (M.S k).lev,.bool true,.slice Ad nd md] jX a6 ?_);have j6:ag (ar tb) W5 (W5.setRow tb #[ah (M.S k).op,ah (M.S k).blk,ah (M.S k).lev,.bool true,.slice Ad nd md]):=(ag.aj (ar tb) W5).au (.inl rfl) _;have iL:Wr Z (ar tb) W5:=fun j hj e=>by rw[show j=tb from e];exact⟨Nat.le_trans kZ lF.1,.inr fun cs hb=>(jX.off hb aD) rfl⟩
  have tq:=ae<|jX.au #[ah (M.S k).op,ah (M.S k).blk,ah (M.S k).lev,.bool true,.slice Ad nd md];have H6:=ae<|H5.dC j6 iL (fun j hj e=>by have:=iA.out j hj;have:=lF.1;have e:j=tb:=e;omega) fun j hj=>⟨_,_,(show j=tb from hj)▸jX.out,aD,aD,aD⟩;have kI:=ae<|j6.aq iG fun e=>lF.2 (show mb=tb from e);have oo:=ae<|vg.aA j6 iL;have cZ:=ae<|bM.aC j6 fun j hj=>.inr eK;clear j6 iL jX H5 iG vg bM;generalize W5.setRow tb #[ah (M.S k).op,ah (M.S k).blk,ah (M.S k).lev,.bool true,.slice Ad nd md]=W6 at *;have t0:aw W6 tb 0 ((M.S k).op):=tq.af rfl;have t3:aE W6 tb 3 (.bool true):=tq.af rfl;exact lS
 ·have P9:((M.S k).op != m.f 4)=true:=by simpa using o2
  clear o1 o2 eD;go_upto_region 6 with fail;have d0:aw W1.drew mb 0 (m.f 0):=y0;have d1:aw W1.drew mb 2 k:=y2;have d2:aw W1.drew mb 4 (m.f 4):=y4;have d3:aE W1.drew a.x 19 (aU a.a8 (cN c) (cN c)):=jZ;go_upto_region 6 with fail;refine dU (fun w':World=>aw w' mb 0 (m.f 0)∧aw w' mb 2 k∧aw w' mb 4 (m.f 4)∧aE w' a.x 19 (aU a.a8 (cN c) (cN c))) 22 fun aH=>?_
  refine yd [0,1,2,3,4,5,6,7,8,9,10,11,12,13,14,15,16,17,18,19,20,21] ?_;exact rH
theorem Le (h:bA Z o a M Dr w){m:di}{v:Value}{d:List Int}(hd:cX Z w v d)(fK:M.up=true)(hb:eF m d.length=true)(h0:m.f 0=6)(ha:jP (cN c) M m=false):
 Calls Tryz.prog 17 #[aO a.x,.agg (aP m v)] w (tO Z o a M m d w):=by
 have hn:¬(M.up=false∨eF m d.length=false):=by rw[fK,hb];simp
 have hm:bd K.sp c (cN c) M m d=M:=by unfold bd;rw[if_neg hn,if_neg ao,if_pos ha]
 have ht:bW K.sp c (cN c) M m d= []:=by unfold bW;rw[if_neg hn,if_neg ao,if_pos ha]
 have HM:=ae hm;have HT:=ae ht;have HA:=ae ha;have Da:=ae h0;have hs:=iE hb;have QZ:(m.f 0 != 5)=true:=by rw[h0];decide
 have QY:(m.f 0 != 6)=false:=by rw[h0];decide
 have h6e:(m.f 0==6)=true:=by rw[h0];decide
 have Kb:(m.f 0==7)=false:=by rw[h0];decide
 obtain⟨A,q,rfl⟩:=hd.shape;have bu:ag az w (w.alloc (.cells (aP m (.slice A d.length q)) 37)):=(ag.aj az w).alloc _;have bL:=ae<|fun k (hk:cR o a k)=>h.kB hk;have iA:=ae<|fun k (hk:mL o a k)=>h.uU hk;have kZ:=ae h.zb;have HB:=ae<|Box.fresh w 37 (aP m (.slice A d.length q));have HO:=ae<|bu.mono (S':=cR o a) fun k hk=>hk.elim;have H:=ae<|h.keep bu;have HD:=ae<|hd.keep bu;have HR:=ae<|fun(w':World)=>jI m A d.length q w';rw[hb]at HR;have mX:=h.nn.2.1;clear h hd bu hm ht hn ha h0 hb;unfold aP at HR
 go_enter Tryz.func17,Tryz.ntmps17
 go_upto_region 1 with fail;change Code.wp _ _ _ _ (w.alloc (.cells (aP m (.slice A d.length q)) 37));have fh:=aB (∀k,mL o a k→k≠w.heap.size) (fun k hk e=>by have:=iA.out k hk;omega);have kM:=aB (w.heap.size<(w.alloc (.cells (aP m (.slice A d.length q)) 37)).heap.size) bh;generalize w.alloc (.cells (aP m (.slice A d.length q)) 37)=W at *;obtain⟨mb,fW⟩:∃mb,mb=w.heap.size:=⟨_,rfl⟩;have pG:=aB (w.heap.size≤mb) (Nat.le_of_eq fW.symm);rw[←fW]at HB fh kM ⊢;clear fW;have x0:aw W mb 0 (m.f 0):=HB.af rfl;have x1:aw W mb 1 (m.f 1):=HB.af rfl;have x2:aw W mb 2 (m.f 2):=HB.af rfl;have x3:aw W mb 3 (m.f 3):=HB.af rfl;have x4:aw W mb 4 (m.f 4):=HB.af rfl;have x5:aw W mb 5 (m.f 5):=HB.af rfl;have x6:aw W mb 6 (m.f 6):=HB.af rfl;have x7:aw W mb 7 (m.f 7):=HB.af rfl;have x8:aw W mb 8 (m.f 8):=HB.af rfl;have x9:aE W mb 9 (.bool m.g):=HB.af rfl;have vx:aE W mb 10 (.slice A d.length q):=HB.af rfl;have kz:=H.yh;rw[fK]at kz;go_upto_region 3 with(go_at_call 52;refine(HR W).mono ?_;rintro e W1 ⟨rfl,aR⟩;have aX:=ae aR;clear aR);have y0:=aX.cell x0 id;have y2:=aX.cell x2 id;have y4:=aX.cell x4 id;have bU:=ae<|aX.aq HB id;have H1:=ae<|H.keep aX;have jL:=ae<|HD.keep aX;have bf:=ae<|HO.aC aX fun _ h=>h.elim;clear x0 x1 x2 x3 x4 x5 x6 x7 x8 x9 vx kz H HB HO HD;have jZ:=H1.pw
 by_cases s1:(cN c:Int)≤m.f 2
 ·exact qQ
 obtain⟨k,hk⟩:∃k:Nat,m.f 2=k:=⟨(m.f 2).toNat,ao⟩;have oJ:k<cN c:=ao;have pr:(k:Int)<cN c:=ao;have U5:decide (cN c≤k)=false:=decide_eq_false ao;have EO:(0:Int)≤(k:Int):=Int.natCast_nonneg k;rw[hk]at y2
 by_cases o1:m.f 4=0
 ·have Qa:(m.f 4==0)=true:=by simpa using o1
  clear o1;go_upto_region 6 with fail;have d0:aw W1.drew mb 0 (m.f 0):=y0;have d1:aw W1.drew mb 2 k:=y2;have d2:aw W1.drew mb 4 (m.f 4):=y4;have d3:aE W1.drew a.x 19 (aU a.a8 (cN c) (cN c)):=jZ;go_upto_region 6 with fail;refine dU (fun w':World=>aw w' mb 0 (m.f 0)∧aw w' mb 2 k∧aw w' mb 4 (m.f 4)∧aE w' a.x 19 (aU a.a8 (cN c) (cN c))) 22 fun aH=>?_
  refine bX [0,1,2,3,4,5,6,7,8,9,10,11,12,13,14,15,16,17,18,19,20,21] ?_;exact rM
 have Qa:(m.f 4==0)=false:=by simpa using o1
 obtain⟨Ad,nd,md,eD⟩:=H1.DD k oJ;obtain⟨z0,z1,z2,z3,z4⟩:=bJ H1.slots oJ eD
 by_cases o2:(M.S k).op=m.f 4
 ·have P9:((M.S k).op != m.f 4)=false:=by simpa using o2
  have w1:(M.S k).wr=false:=by
   exact je
  rw[w1]at z3;clear o1 o2 eD;go_upto_region 6 with fail;have d0:aw W1.drew mb 0 (m.f 0):=y0;have d1:aw W1.drew mb 2 k:=y2;have d2:aw W1.drew mb 4 (m.f 4):=y4;have d3:aE W1.drew a.x 19 (aU a.a8 (cN c) (cN c)):=jZ;go_upto_region 6 with fail;refine dU (fun w':World=>aw w' mb 0 (m.f 0)∧aw w' mb 2 k∧aw w' mb 4 (m.f 4)∧aE w' a.x 19 (aU a.a8 (cN c) (cN c))) 22 fun aH=>?_
  refine bX [0,1,2,3,4,5,6,7,8,9,10,11,12,13,14,15,16,17,18,19,20,21] ?_;refine cG ?_;clear aH d0 d1 d2 d3;go_upto_region 8 with fail;have d0:aE W1.drew.drew a.x 19 (aU a.a8 (cN c) (cN c)):=jZ;have d1:aw W1.drew.drew mb 2 k:=y2;have d2:aw W1.drew.drew a.a8 (k*5) ((M.S k).op):=z0;have d3:aw W1.drew.drew a.a8 (k*5+1) ((M.S k).blk):=z1;have d4:aw W1.drew.drew a.a8 (k*5+2) ((M.S k).lev):=z2;have d5:aE W1.drew.drew a.a8 (k*5+3) (.bool false):=z3;have d6:aE W1.drew.drew a.a8 (k*5+4) (.slice Ad nd md):=z4;go_upto_region 8 with fail;refine dU (fun w':World=>aE w' a.x 19 (aU a.a8 (cN c) (cN c))∧aw w' mb 2 k∧aw w' a.a8 (k*5) ((M.S k).op)∧aw w' a.a8 (k*5+1) ((M.S k).blk)∧aw w' a.a8 (k*5+2) ((M.S k).lev)∧aE w' a.a8 (k*5+3) (.bool false)∧aE w' a.a8 (k*5+4) (.slice Ad nd md)) 9 fun aH=>?_
  refine bX [0,1,2,3,4,5,6,7] ?_;refine cM 8 fun Kc hK=>?_
  go_simp;have dq:ag az W1 (W1.drew.drew.alloc (.cells jY 54)):=(((ag.aj az W1).drew).drew).alloc _;have jX:=aB (Box (W1.drew.drew.alloc (.cells jY 54)) W1.heap.size 54 jY) (Box.fresh W1.drew.drew 54 jY);have H5:=ae<|H1.keep dq;have iG:=ae<|dq.aq bU id;have vg:=ae<|jL.keep dq;have bM:=ae<|bf.aC dq fun _ h=>h.elim;have lF:=aB (w.heap.size≤W1.heap.size∧mb≠W1.heap.size) (⟨bf.size,fun e=>by have:=bU.lt;omega⟩);have e0:=dq.cell jZ id;have e1:=dq.cell y2 id;have e2:=dq.cell z0 id;have e3:=dq.cell z1 id;have e4:=dq.cell z2 id;have e5:=dq.cell z3 id;have e6:=dq.cell z4 id;change Kc _ (W1.drew.drew.alloc (.cells jY 54));clear dq
  try rw[show W1.drew.drew.heap.size=W1.heap.size from rfl]
  generalize W1.drew.drew.alloc (.cells jY 54)=W5 at *;generalize W1.heap.size=tb at *;refine eh hK fun aH=>?_
  clear hK;refine cG ?_;clear aH d0 d1 d2 d3 d4 d5 d6 e0 e1 e2 e3 e4 e5 e6;go_upto_region 9 with(refine fJ #[ah (M.S k).op,ah (M.S k).blk,ah (M.S k).lev,.bool false,.slice Ad nd md] jX a6 ?_);have j6:ag (ar tb) W5 (W5.setRow tb #[ah (M.S k).op,ah (M.S k).blk,ah (M.S k).lev,.bool false,.slice Ad nd md]):=(ag.aj (ar tb) W5).au (.inl rfl) _;have iL:Wr Z (ar tb) W5:=fun j hj e=>by rw[show j=tb from e];exact⟨Nat.le_trans kZ lF.1,.inr fun cs hb=>(jX.off hb aD) rfl⟩
  have tq:=ae<|jX.au #[ah (M.S k).op,ah (M.S k).blk,ah (M.S k).lev,.bool false,.slice Ad nd md];have H6:=ae<|H5.dC j6 iL (fun j hj e=>by have:=iA.out j hj;have:=lF.1;have e:j=tb:=e;omega) fun j hj=>⟨_,_,(show j=tb from hj)▸jX.out,aD,aD,aD⟩;have kI:=ae<|j6.aq iG fun e=>lF.2 (show mb=tb from e);have oo:=ae<|vg.aA j6 iL;have cZ:=ae<|bM.aC j6 fun j hj=>.inr eK;clear j6 iL jX H5 iG vg bM;generalize W5.setRow tb #[ah (M.S k).op,ah (M.S k).blk,ah (M.S k).lev,.bool false,.slice Ad nd md]=W6 at *;have t0:aw W6 tb 0 ((M.S k).op):=tq.af rfl;have t3:aE W6 tb 3 (.bool false):=tq.af rfl;exact lS
 ·have P9:((M.S k).op != m.f 4)=true:=by simpa using o2
  clear o1 o2 eD;go_upto_region 6 with fail;have d0:aw W1.drew mb 0 (m.f 0):=y0;have d1:aw W1.drew mb 2 k:=y2;have d2:aw W1.drew mb 4 (m.f 4):=y4;have d3:aE W1.drew a.x 19 (aU a.a8 (cN c) (cN c)):=jZ;go_upto_region 6 with fail;refine dU (fun w':World=>aw w' mb 0 (m.f 0)∧aw w' mb 2 k∧aw w' mb 4 (m.f 4)∧aE w' a.x 19 (aU a.a8 (cN c) (cN c))) 22 fun aH=>?_
  refine bX [0,1,2,3,4,5,6,7,8,9,10,11,12,13,14,15,16,17,18,19,20,21] ?_;exact rH
end
section
variable {K:aZ}{c:aM}{Z:ZN}{w w':World}{o:cJ K c 0}{a:kK}{M:CM K.σ}{Dr:Nat→List Int}
theorem sw{P:Prop}(h:P:=by
 rw[Kx,wL.out,Int.toNat_natCast]at hm ht;obtain⟨nb,EM⟩:∃nb:Nat,(M.S k).blk=nb:=⟨(M.S k).blk.toNat,(Int.toNat_of_nonneg (KF k oH oF).1).symm⟩;rw[EM]at hm ht;have HM:=ae hm;have HT:=ae ht;have wD:=R7.out _ _ _ _ nb _ _ H11 (by rw[←EM];exact(KF k oH oF).2) Zl tJ;unfold fY at wD;have DN:=ae wD;have w1:aw Bd tb 1 nb:=by rw[←EM];exact ada.af rfl
 clear hm ht hn hg Kx EM wD;go_wp2_with (go_at_call 53;refine DN.mono ?_;rintro e W12 ⟨u10,abn,rfl,Sk,aaH,aai⟩);go_ret;exact⟨u10,{a with dv:=aI a.dv k aJ,en:=.slice A6 (X.length+1) c6},abn,rfl,by rw[HT.out];exact Sk.low KJ.size,by rw[HM.out];exact aaH,⟨rfl,rfl,rfl,py,KJ.aC aai fun j hj=>py j hj⟩⟩):P:=h
theorem sE{P:Prop}(h:P:=by
 rw[hg]at y9;have hm:bd K.sp c (cN c) M m d=kE M m d:=by unfold bd;rw[if_neg hn,if_neg b8,if_neg b7,if_pos hg]
 have ht:bW K.sp c (cN c) M m d= []:=by unfold bW;rw[if_neg hn,if_neg b8,if_neg b7,if_pos hg]
 have HM:=ae hm;have HT:=ae ht;clear hm ht hn hg;go_wp2;go_ret;exact⟨_,{a with dv:=aI a.dv k aJ,en:=.slice A6 (X.length+1) c6},Dr,rfl,by rw[HT.out];exact bg.nil _ _ _,by rw[HM.out];exact H11,⟨rfl,rfl,rfl,py,KJ⟩⟩):P:=h
theorem rB{P:Prop}(h:P:=by
 rw[←oW (cN c) _ oH.out];exact e7▸((((((show Box W6.drew a.a8 54 _ from H6.slots).store (k*5) (ah 0)).store (k*5+1) (ah 0)).store (k*5+2) (ah 0)).store (k*5+3) (.bool false)).store (k*5+4) aJ)):P:=h
theorem qV{P:Prop}(h:P:=by
 rw[show j=a.x from e];exact⟨wO.lo _ (.inr (.inl rfl)),.inr fun cs hb=>(xc.off hb aD) rfl⟩):P:=h
theorem Lh (h:bA Z o a M Dr w){m:di}{v:Value}{d:List Int}(hd:cX Z w v d)(fK:M.up=true)(hb:eF m d.length=true)(h0:m.f 0=5)(ha:jP (cN c) M m=true)(ti:M.en.length≤1000000)(cw:K.sp.eE M.s<bN)(vy:∀j,j<cN c→(M.S j).op≠0→0≤(M.S j).blk∧(M.S j).blk<c.f 2)
 (np:∀(a:kK) (M:CM K.σ) (Dr:Nat→List Int) (w:World) (n:Nat) (v:Value) (d:List Int),bA Z o a M Dr w→(n:Int)<c.f 2→cX Z w v d→K.sp.eE M.s<bN→Calls Tryz.prog 53 #[aO a.x,.agg (fY n v)] w (Ht Z o a M n d w)):
 Calls Tryz.prog 17 #[aO a.x,.agg (aP m v)] w (tO Z o a M m d w):=by
 have HA:=ae ha;have Da:=ae h0;have Bx:=ae ti;have tJ:=ae cw;have KF:=ae vy;have KK:=ae hb;have R7:=ae np;clear ha ti cw vy np;have hs:=iE hb;have QZ:(m.f 0 != 5)=false:=by rw[h0];decide
 have QY:(m.f 0 != 6)=true:=by rw[h0];decide
 have h6e:(m.f 0==6)=false:=by rw[h0];decide
 have Kb:(m.f 0==7)=false:=by rw[h0];decide
 obtain⟨A,q,rfl⟩:=hd.shape;have bu:ag az w (w.alloc (.cells (aP m (.slice A d.length q)) 37)):=(ag.aj az w).alloc _;have bL:=ae<|fun k (hk:cR o a k)=>h.kB hk;have iA:=ae<|fun k (hk:mL o a k)=>h.uU hk;have kZ:=ae h.zb;have HB:=ae<|Box.fresh w 37 (aP m (.slice A d.length q));have HO:=ae<|bu.mono (S':=cR o a) fun k hk=>hk.elim;have H:=ae<|h.keep bu;have HD:=ae<|hd.keep bu;have HR:=ae<|fun(w':World)=>jI m A d.length q w';rw[hb]at HR;have mX:=h.nn.2.1;clear h hd bu h0 hb;unfold aP at HR
 go_enter Tryz.func17,Tryz.ntmps17
 go_upto_region 1 with fail;change Code.wp _ _ _ _ (w.alloc (.cells (aP m (.slice A d.length q)) 37));have fh:=aB (∀k,mL o a k→k≠w.heap.size) (fun k hk e=>by have:=iA.out k hk;omega);have kM:=aB (w.heap.size<(w.alloc (.cells (aP m (.slice A d.length q)) 37)).heap.size) bh;generalize w.alloc (.cells (aP m (.slice A d.length q)) 37)=W at *;obtain⟨mb,fW⟩:∃mb,mb=w.heap.size:=⟨_,rfl⟩;have pG:=aB (w.heap.size≤mb) (Nat.le_of_eq fW.symm);rw[←fW]at HB fh kM ⊢;clear fW;have x0:aw W mb 0 (m.f 0):=HB.af rfl;have x1:aw W mb 1 (m.f 1):=HB.af rfl;have x2:aw W mb 2 (m.f 2):=HB.af rfl;have x3:aw W mb 3 (m.f 3):=HB.af rfl;have x4:aw W mb 4 (m.f 4):=HB.af rfl;have x5:aw W mb 5 (m.f 5):=HB.af rfl;have x6:aw W mb 6 (m.f 6):=HB.af rfl;have x7:aw W mb 7 (m.f 7):=HB.af rfl;have x8:aw W mb 8 (m.f 8):=HB.af rfl;have x9:aE W mb 9 (.bool m.g):=HB.af rfl;have vx:aE W mb 10 (.slice A d.length q):=HB.af rfl;have kz:=H.yh;rw[fK]at kz;go_upto_region 3 with(go_at_call 52;refine(HR W).mono ?_;rintro e W1 ⟨rfl,aR⟩;have aX:=ae aR;clear aR);have y0:=aX.cell x0 id;have y2:=aX.cell x2 id;have y4:=aX.cell x4 id;have bU:=ae<|aX.aq HB id;have H1:=ae<|H.keep aX;have jL:=ae<|HD.keep aX;have bf:=ae<|HO.aC aX fun _ h=>h.elim;clear x0 x1 x2 x3 x4 x5 x6 x7 x8 x9 vx kz H HB HO HD;have jZ:=H1.pw;have hA:=HA.out;unfold jP at hA;rw[Da.out]at hA;simp only[Bool.and_eq_true,decide_eq_true_eq]at hA;obtain⟨⟨⟨⟨_,s1⟩,o1⟩,o2⟩,w1⟩:=hA;obtain⟨k,hk⟩:∃k:Nat,m.f 2=k:=⟨(m.f 2).toNat,ao⟩;rw[hk]at s1;rw[hk,Int.toNat_natCast]at o2 w1;have w1:(M.S k).wr=false:=by rw[w1];decide
 have oJ:k<cN c:=ao;have pr:(k:Int)<cN c:=ao;have U5:decide (cN c≤k)=false:=decide_eq_false ao;have EO:(0:Int)≤(k:Int):=Int.natCast_nonneg k;rw[hk]at y2;have Qa:(m.f 4==0)=false:=by simpa using o1
 have P9:((M.S k).op != m.f 4)=false:=by simpa using o2
 obtain⟨Ad,nd,md,eD⟩:=H1.DD k oJ;obtain⟨z0,z1,z2,z3,z4⟩:=bJ H1.slots oJ eD;rw[w1]at z3;have oF:=aB ((M.S k).op≠0) gQ;have oH:=ae oJ;have wL:=ae hk;have JU:=ae eD;clear o1 o2 w1 eD hk s1 hs;go_upto_region 6 with fail;have d0:aw W1.drew mb 0 (m.f 0):=y0;have d1:aw W1.drew mb 2 k:=y2;have d2:aw W1.drew mb 4 (m.f 4):=y4;have d3:aE W1.drew a.x 19 (aU a.a8 (cN c) (cN c)):=jZ;go_upto_region 6 with fail;refine dU (fun w':World=>aw w' mb 0 (m.f 0)∧aw w' mb 2 k∧aw w' mb 4 (m.f 4)∧aE w' a.x 19 (aU a.a8 (cN c) (cN c))) 22 fun aH=>?_
 refine yd [0,1,2,3,4,5,6,7,8,9,10,11,12,13,14,15,16,17,18,19,20,21] ?_;refine cG ?_;clear aH d0 d1 d2 d3;go_upto_region 8 with fail;have d0:aE W1.drew.drew a.x 19 (aU a.a8 (cN c) (cN c)):=jZ;have d1:aw W1.drew.drew mb 2 k:=y2;have d2:aw W1.drew.drew a.a8 (k*5) ((M.S k).op):=z0;have d3:aw W1.drew.drew a.a8 (k*5+1) ((M.S k).blk):=z1;have d4:aw W1.drew.drew a.a8 (k*5+2) ((M.S k).lev):=z2;have d5:aE W1.drew.drew a.a8 (k*5+3) (.bool false):=z3;have d6:aE W1.drew.drew a.a8 (k*5+4) (.slice Ad nd md):=z4;go_upto_region 8 with fail;refine dU (fun w':World=>aE w' a.x 19 (aU a.a8 (cN c) (cN c))∧aw w' mb 2 k∧aw w' a.a8 (k*5) ((M.S k).op)∧aw w' a.a8 (k*5+1) ((M.S k).blk)∧aw w' a.a8 (k*5+2) ((M.S k).lev)∧aE w' a.a8 (k*5+3) (.bool false)∧aE w' a.a8 (k*5+4) (.slice Ad nd md)) 9 fun aH=>?_
 refine bX [0,1,2,3,4,5,6,7] ?_;refine cM 8 fun Kc hK=>?_
 go_simp;have dq:ag az W1 (W1.drew.drew.alloc (.cells jY 54)):=(((ag.aj az W1).drew).drew).alloc _;have jX:=aB (Box (W1.drew.drew.alloc (.cells jY 54)) W1.heap.size 54 jY) (Box.fresh W1.drew.drew 54 jY);have H5:=ae<|H1.keep dq;have iG:=ae<|dq.aq bU id;have vg:=ae<|jL.keep dq;have bM:=ae<|bf.aC dq fun _ h=>h.elim;have lF:=aB (w.heap.size≤W1.heap.size∧mb≠W1.heap.size) (⟨bf.size,fun e=>by have:=bU.lt;omega⟩);have e0:=dq.cell jZ id;have e1:=dq.cell y2 id;have e2:=dq.cell z0 id;have e3:=dq.cell z1 id;have e4:=dq.cell z2 id;have e5:=dq.cell z3 id;have e6:=dq.cell z4 id;change Kc _ (W1.drew.drew.alloc (.cells jY 54));clear dq
 try rw[show W1.drew.drew.heap.size=W1.heap.size from rfl]
 generalize W1.drew.drew.alloc (.cells jY 54)=W5 at *;generalize W1.heap.size=tb at *;refine eh hK fun aH=>?_
 clear hK;refine cG ?_;clear aH d0 d1 d2 d3 d4 d5 d6 e0 e1 e2 e3 e4 e5 e6;go_upto_region 9 with(refine fJ #[ah (M.S k).op,ah (M.S k).blk,ah (M.S k).lev,.bool false,.slice Ad nd md] jX a6 ?_);have j6:ag (ar tb) W5 (W5.setRow tb #[ah (M.S k).op,ah (M.S k).blk,ah (M.S k).lev,.bool false,.slice Ad nd md]):=(ag.aj (ar tb) W5).au (.inl rfl) _;have iL:Wr Z (ar tb) W5:=fun j hj e=>by rw[show j=tb from e];exact⟨Nat.le_trans kZ lF.1,.inr fun cs hb=>(jX.off hb aD) rfl⟩
 have tq:=ae<|jX.au #[ah (M.S k).op,ah (M.S k).blk,ah (M.S k).lev,.bool false,.slice Ad nd md];have H6:=ae<|H5.dC j6 iL (fun j hj e=>by have:=iA.out j hj;have:=lF.1;have e:j=tb:=e;omega) fun j hj=>⟨_,_,(show j=tb from hj)▸jX.out,aD,aD,aD⟩;have kI:=ae<|j6.aq iG fun e=>lF.2 (show mb=tb from e);have oo:=ae<|vg.aA j6 iL;have cZ:=ae<|bM.aC j6 fun j hj=>.inr eK;clear j6 iL jX H5 iG vg bM;generalize W5.setRow tb #[ah (M.S k).op,ah (M.S k).blk,ah (M.S k).lev,.bool false,.slice Ad nd md]=W6 at *;have t0:aw W6 tb 0 ((M.S k).op):=tq.af rfl;have t3:aE W6 tb 3 (.bool false):=tq.af rfl;have u0:aw W6 mb 0 (m.f 0):=kI.af rfl;have u4:aw W6 mb 4 (m.f 4):=kI.af rfl;have Bp:=aB (cX Z W6 (.slice Ad nd md) (M.S k).ed) (JU.out▸H6.fw k oH);have bw:(k:Int)<cN c:=by have:=oH.out;omega
 have F4:(0:Int)≤(k:Int):=Int.natCast_nonneg k;go_upto_region 11 with fail;have d0:aE W6.drew a.x 19 (aU a.a8 (cN c) (cN c)):=H6.pw;have d1:aw W6.drew mb 2 k:=by rw[←wL.out];exact kI.af rfl
 go_upto_region 11 with fail;refine dU (fun w':World=>aE w' a.x 19 (aU a.a8 (cN c) (cN c))∧aw w' mb 2 k) 8 fun aH=>?_
 refine bX [0,1,2,3,4,5] ?_;refine cM 6 fun Kc hK=>?_
 go_simp;refine eh hK fun aH=>?_
 clear hK;refine bX [7] ?_;refine cG ?_;clear aH d0 d1 t0 t3 u0 u4;have sT:=aB (W6.drew.there a.a8 (k*5) 5) ((show Box W6.drew a.a8 54 _ from H6.slots).there (by rw[xD];have:=oH.out;omega));go_upto_region 12 with(refine wpList_store_mid rfl 54 _ _ rfl a.a8 (k*5) #[ah 0,ah 0,ah 0,.bool false,aJ] rfl rfl sT bZ a6 ?_);obtain⟨W7,e7⟩:∃W7,W7=((((((W6.drew).setCell ⟨a.a8,k*5,none⟩ (ah 0)).setCell ⟨a.a8,k*5+1,none⟩ (ah 0)).setCell ⟨a.a8,k*5+2,none⟩ (ah 0)).setCell ⟨a.a8,k*5+3,none⟩ (.bool false)).setCell ⟨a.a8,k*5+4,none⟩ aJ):=⟨_,rfl⟩;change Code.wp _ _ _ _ ((((((W6.drew).setCell ⟨a.a8,k*5,none⟩ (ah 0)).setCell ⟨a.a8,k*5+1,none⟩ (ah 0)).setCell ⟨a.a8,k*5+2,none⟩ (ah 0)).setCell ⟨a.a8,k*5+3,none⟩ (.bool false)).setCell ⟨a.a8,k*5+4,none⟩ aJ);have Yl:Box W7 a.a8 54 (mC (cN c) (aI (fun j=>sR (M.S j) (a.dv j)) k (sR EH aJ))):=by
  exact rB
 have j7:ag (ar a.a8) W6 W7:=e7▸((((((ag.aj (ar a.a8) W6).drew).setCell (p:=⟨a.a8,k*5,none⟩) (.inl (show ar a.a8 a.a8 from rfl)) _).setCell (p:=⟨a.a8,k*5+1,none⟩) (.inl (show ar a.a8 a.a8 from rfl)) _).setCell (p:=⟨a.a8,k*5+2,none⟩) (.inl (show ar a.a8 a.a8 from rfl)) _).setCell (p:=⟨a.a8,k*5+3,none⟩) (.inl (show ar a.a8 a.a8 from rfl)) _).setCell (p:=⟨a.a8,k*5+4,none⟩) (.inl (show ar a.a8 a.a8 from rfl)) _;have wH:∀j,ar a.a8 j→cR o a j:=fun j hj=>by rw[show j=a.a8 from hj];exact .inr (.inr (.inr (.inl rfl)))
 have Vd:Wr Z (ar a.a8) W6:=fun j hj hs=>H6.wr j hj (wH j hs)
 have H7:=ae<|H6.vi (s:=EH) j7 Yl (cX.nil _ _);have sV:=ae<|j7.aq kI fun e=>fh a.a8 (.inl (wH _ rfl)) (show mb=a.a8 from e).symm;have oD:=ae (j7.aq tq fun e=>by have:=bL.out a.a8 (wH _ rfl);have:=lF.1;have e:tb=a.a8:=e;omega);have vJ:=ae<|oo.aA j7 Vd;have Fb:=ae<|Bp.aA j7 Vd;have fC:=ae<|cZ.aC j7 fun j hj=>.inl (wH j hj);rw[←e7];clear e7 Yl j7 wH Vd bw F4 sT H6 kI tq oo Bp cZ;have y2:aw W7 mb 2 k:=by rw[←wL.out];exact sV.af rfl
 have y4:aw W7 mb 4 (m.f 4):=sV.af rfl;have y8:aw W7 mb 8 (m.f 8):=sV.af rfl;have t3:aE W7 tb 3 (.bool false):=oD.af rfl;go_upto_region 13 with fail;change Code.wp _ _ _ _ (W7.alloc (.cells (FZ k (m.f 4) false (m.f 8) aJ) 58));have J9:ag az W7 (W7.alloc (.cells (FZ k (m.f 4) false (m.f 8) aJ) 58)):=(ag.aj az W7).alloc _;have Ar:=ae<|Box.fresh W7 58 (FZ k (m.f 4) false (m.f 8) aJ);have H8:=ae<|H7.keep J9;have Bm:=ae<|J9.aq sV id;have DJ:=ae<|J9.aq oD id;have MD:=ae<|vJ.keep J9;have VY:=ae<|Fb.keep J9;have ix:=ae<|fC.aC J9 fun _ h=>h.elim;have tu:=aB (w.heap.size≤W7.heap.size∧W7.heap.size≠mb∧W7.heap.size≠tb) (⟨fC.size,fun e=>by have:=sV.lt;omega,fun e=>by have:=oD.lt;omega⟩);clear J9 y2 y4 y8 t3 H7 sV oD vJ Fb fC;generalize W7.alloc (.cells (FZ k (m.f 4) false (m.f 8) aJ) 58)=W8 at *;generalize W7.heap.size=rb at *;obtain⟨As,cs,es,pA,kC,gj⟩:=id MD.1;injection es with es1 es2 es3;subst es1 es3;have tG:=ae gj;have Vt:=ae kC;have w4:aE W8 tb 4 (.slice Ad nd md):=DJ.af rfl;have w3:aE W8 tb 3 (.bool false):=DJ.af rfl;have y4:aE W8 rb 4 aJ:=Ar.af rfl;have P6:aE W8 mb 10 (.slice A d.length q):=Bm.af rfl;have bU:=ae (show([]:List Value).length+(bytes d).length≤maxLen by rw[gq];have:=Vt.out;unfold maxLen;simp;omega);have cO:=ae (show(([]:List Value).length+(bytes d).length)*1≤140737488355328 by rw[gq];have:=Vt.out;simp;omega);clear pA kC gj es2;go_upto_region 16 with(at_builtin;refine cy _ rfl (.tmp 101) (.tmp 103) 35 5 rfl nr rfl Tryz.underlying35 aJ [] rfl (Row.vK _ _) A d.length q (bytes d) rfl fp tG (mW d) bU cO ?_;intro v' Q5 Qg bT hk6 _;have bT:=bT.mono (S':=az) (fun j hj=>(a7 hj).elim);rw[List.nil_append]at Qg;obtain⟨A8,c8,e5a,_,_⟩:=Qg.shape;have e5:v'= .slice A8 d.length c8:=(by rw[e5a,gq]);clear e5a;subst e5;have tz:=ae Qg;have wZ:=ae bT;have HK6:=ae hk6;have f4:Q5.frozen? ⟨rb,4,none⟩=false:=(bT.aq Ar id).free 4;have z4:aE Q5 rb 4 aJ:=(bT.aq Ar id).af rfl;have z10:aE Q5 mb 10 (.slice A d.length q):=(bT.aq Bm id).af rfl;clear Qg bT hk6 y4 P6);have Kl:=aB (cX Z Q5 (.slice A8 d.length c8) d) (cX.row tz Vt fun k hk e=>by
  rcases HK6 k hk with e9|e9
  ·exact(a7 e9).elim
  ·have h1:=H8.kB (.inl ((H8.zn k).1 e));omega)
 have UG:=wZ.aq Ar id;have j7:ag (ar rb) Q5 (Q5.setCell ⟨rb,4,none⟩ (.slice A8 d.length c8)):=(ag.aj (ar rb) Q5).setCell (p:=⟨rb,4,none⟩) (.inl (show ar rb rb from rfl)) _;have Vg:Wr Z (ar rb) Q5:=fun k hk e=>by rw[show k=rb from e];exact⟨Nat.le_trans kZ tu.1,.inr fun cs hb=>(UG.off hb aD) rfl⟩
 have gW:=aB (Box (Q5.setCell ⟨rb,4,none⟩ (.slice A8 d.length c8)) rb 58 (FZ k (m.f 4) false (m.f 8) (.slice A8 d.length c8))) (UG.store 4 (.slice A8 d.length c8));have H9:=ae<|(H8.keep wZ).dC j7 Vg (fun k hk e=>by have:=iA.out k hk;have:=tu.1;have e:k=rb:=e;omega) fun k hk=>⟨_,_,(show k=rb from hk)▸UG,aD,aD,aD⟩;have Br:=ae<|Kl.aA j7 Vg;have BA:=ae<|(MD.keep wZ).aA j7 Vg;have zL:=ae<|j7.aq (wZ.aq Bm id) fun e=>tu.2.1 (show mb=rb from e).symm;have Qs:=ae<|j7.aq (wZ.aq DJ id) fun e=>tu.2.2 (show tb=rb from e).symm;have kf:=ae<|(ix.aC wZ fun _ h=>h.elim).aC j7 fun k hk=>.inr (by rw[show k=rb from hk];exact tu.1);change Code.wp _ _ _ _ (Q5.setCell ⟨rb,4,none⟩ (.slice A8 d.length c8));clear f4 z4 z10 w3 w4 UG j7 Vg Kl tz wZ HK6 Ar H8 MD VY Bm DJ ix tG bU cO;generalize Q5.setCell ⟨rb,4,none⟩ (.slice A8 d.length c8)=W9 at *;have z10:aE W9 mb 10 (.slice A d.length q):=zL.af rfl;go_upto_region 17 with fail;clear z10;obtain⟨Ae,ce,uh,_,_⟩:=H9.en.shape;have uh:a.en= .slice Ae M.en.length ce:=uh;have nc:=ae uh;obtain⟨X,e1,r1,d1⟩:=H9.en;have cQ:ag az W9 (W9.alloc (.cells (jD ⟨k,m.f 4,false,m.f 8,d⟩ (.slice A8 d.length c8)).toArray 58)).drew:=((ag.aj az W9).alloc _).drew;have CV:=aB (∀j u,(jD ⟨k,m.f 4,false,m.f 8,d⟩ (.slice A8 d.length c8))[j]? =some u→(W9.alloc (.cells (jD ⟨k,m.f 4,false,m.f 8,d⟩ (.slice A8 d.length c8)).toArray 58)).drew.cell? ((⟨W9.heap.size,0,none⟩:Addr).add j)=some u) (cV W9 _ _);have lH:=ae e1;have AW:=bk r1 cQ fun _ _=>id
 rw[show({a with dv:=aI a.dv k aJ}:kK).en= .slice Ae M.en.length ce from uh]at AW;have b5:=ae AW;have JW:=ae<|fun p hp=>(d1 p hp).keep cQ;have wO:=ae<|H9.keep cQ;have Hz:=ae<|Br.keep cQ;have Ie:=ae<|BA.keep cQ;have Dl:=ae<|cQ.aq zL id;have Fa:=ae<|cQ.aq Qs id;have Ia:=ae<|cQ.aq gW id;have kh:=ae<|kf.aC cQ fun _ h=>h.elim;have tF:=aB (Z.B≤(W9.alloc (.cells (jD ⟨k,m.f 4,false,m.f 8,d⟩ (.slice A8 d.length c8)).toArray 58)).drew.heap.size) (Nat.le_trans H9.zb cQ.size);have Ke:=aB (X.length≤1000000) (by
  have h8:X.length=M.en.length:=by rw[←List.length_map (f:=Prod.fst),e1]
  have h9:=Bx.out;omega)
 have kk:aE W9.drew a.x 22 (.slice Ae M.en.length ce):=by rw[←nc.out];exact H9.Qn
 have k0:aw W9.drew rb 0 k:=gW.af rfl;have k1:aw W9.drew rb 1 (m.f 4):=gW.af rfl;have k2:aE W9.drew rb 2 (.bool false):=gW.af rfl;have k3:aw W9.drew rb 3 (m.f 8):=gW.af rfl;have k4:aE W9.drew rb 4 (.slice A8 d.length c8):=gW.af rfl;have Q3:=cQ.cell (show aE W9 a.x 22 (.slice Ae M.en.length ce)from kk) id;have e0:=cQ.cell (show W9.cell? _=_ from k0) id;have ZX:=cQ.cell (show W9.cell? _=_ from k1) id;have e2:=cQ.cell (show W9.cell? _=_ from k2) id;have e3:=cQ.cell (show W9.cell? _=_ from k3) id;have e4:=cQ.cell (show W9.cell? _=_ from k4) id;clear uh e1 r1 AW d1 cQ;go_upto_region 17 with fail;refine dU (fun w':World=>aE w' a.x 22 (.slice Ae M.en.length ce)∧aw w' rb 0 k∧aw w' rb 1 (m.f 4)∧aE w' rb 2 (.bool false)∧aw w' rb 3 (m.f 8)∧aE w' rb 4 (.slice A8 d.length c8)) 8 fun aH=>?_
 refine bX [0,1,2,3,4,5] ?_;refine cM 6 fun Kc hK=>?_
 go_simp;refine eh hK fun aH=>?_
 clear hK;refine cM 7 fun Kc hK=>?_
 refine nV _ (.tmp 112) (.tmp 114) 50 58 rfl yO rfl aD Tryz.underlying50 Z.B (.slice Ae M.en.length ce) X.length _ (jD ⟨k,m.f 4,false,m.f 8,d⟩ (.slice A8 d.length c8)) rfl b5 ⟨W9.heap.size,0,none⟩ rfl rfl CV eM bR bQ tF ?_;intro v6 ga h6 bT h9;have EN:∀j,aK v6 j→aK a.en j∨(W9.alloc (.cells (jD ⟨k,m.f 4,false,m.f 8,d⟩ (.slice A8 d.length c8)).toArray 58)).drew.heap.size≤j:=fun j hj=>by
  exact jo
 have bT:ag (aK a.en) (W9.alloc (.cells (jD ⟨k,m.f 4,false,m.f 8,d⟩ (.slice A8 d.length c8)).toArray 58)).drew ga:=by rw[nc.out];exact bT
 have wG:Wr Z (aK a.en) (W9.alloc (.cells (jD ⟨k,m.f 4,false,m.f 8,d⟩ (.slice A8 d.length c8)).toArray 58)).drew:=fun j hj hs=>wO.wr j hj (.inr (.inr (.inr (.inr hs))))
 have pC:∀j,w.heap.size≤j→¬aK a.en j:=fun j hj e=>by have:=bL.out j (.inr (.inr (.inr (.inr e))));omega
 have tH:=ae<|dy.app (v:=v6) (⟨k,m.f 4,false,m.f 8,d⟩,(.slice A8 d.length c8)) h6 lH (fun p hp=>(JW p hp).aA bT wG) (Hz.aA bT wG);have zI:=ae EN;have GD:=ae bT;have G7:=ae<|bT.aq Dl (pC _ pG);have RL:=ae<|bT.aq Fa (pC _ lF.1);have oR:=ae<|bT.aq Ia (pC _ tu.1);have Ic:=ae<|Ie.aA bT wG;have gX:=bT.aq wO.aq (wO.tC wO.aq aD);have kk:aE ga a.x 22 (.slice Ae M.en.length ce):=by rw[←nc.out];exact gX.af rfl
 have k0:aw ga rb 0 k:=oR.af rfl;have k1:aw ga rb 1 (m.f 4):=oR.af rfl;have k2:aE ga rb 2 (.bool false):=oR.af rfl;have k3:aw ga rb 3 (m.f 8):=oR.af rfl;have k4:aE ga rb 4 (.slice A8 d.length c8):=oR.af rfl;have f22:ga.frozen? ⟨a.x,22,none⟩=false:=gX.free _;obtain⟨A6,c6,e6,_,_⟩:=cz h6;subst e6;have xc:=ae gX;clear h6 bT h9 EN wG gX pC;refine eh hK fun aH=>?_
 clear hK;refine cG ?_;clear aH Q3 e0 ZX e2 e3 e4 k0 k1 k2 k3 k4;go_upto_region 18 with fail;change Code.wp _ _ _ _ (ga.setCell ⟨a.x,22,none⟩ (.slice A6 (X.length+1) c6));obtain⟨ER,dL⟩:=wO.pH GD tH zI;have j7:ag (ar a.x) ga (ga.setCell ⟨a.x,22,none⟩ (.slice A6 (X.length+1) c6)):=(ag.aj (ar a.x) ga).setCell (p:=⟨a.x,22,none⟩) (.inl (show ar a.x a.x from rfl)) _;have wH:Wr Z (ar a.x) ga:=fun j _ e=>by
  exact qV
 have ZI:a.x<w.heap.size:=bL.out a.x (.inr (.inl rfl));have H11:=aB (bA Z o {a with dv:=aI a.dv k aJ,en:=.slice A6 (X.length+1) c6} (kE M m d) Dr _) (by rw[←El (M:=M) (d:=d) wL.out Da.out];exact ER);have KJ:=ae<|kh.trans dL;have abj:=ae (j7.aq G7 fun e=>by have:=pG.out;have e:mb=a.x:=e;omega);have ada:=ae (j7.aq RL fun e=>by have:=lF.1;have e:tb=a.x:=e;omega);have Zl:=ae<|Ic.aA j7 wH;have CO:∀j,aK (.slice A6 (X.length+1) c6) j→aK a.en j∨w.heap.size≤j:=fun j hj=>(zI j hj).imp id fun e=>Nat.le_trans kh.size e
 have py:=aB (∀j,cR o {a with dv:=aI a.dv k aJ,en:=.slice A6 (X.length+1) c6} j→cR o a j∨w.heap.size≤j) (fun j hj=>by
  rcases hj with e|e|e|e|e
  ·exact .inl (.inl e)
  ·exact .inl (.inr (.inl e))
  ·exact .inl (.inr (.inr (.inl e)))
  ·exact .inl (.inr (.inr (.inr (.inl e))))
  ·exact(CO j e).imp (fun e=>.inr (.inr (.inr (.inr e)))) id)
 clear ER dL j7 wH CO ZI kk k0 k1 k2 k3 k4 f22 GD tH zI xc kh Hz Ie Ic wO Dl G7 Fa RL Ia oR b5 JW CV tF H9 zL Qs gW BA Br kf;generalize ga.setCell ⟨a.x,22,none⟩ (.slice A6 (X.length+1) c6)=Bd at *;have y9:aE Bd mb 9 (.bool m.g):=abj.af rfl;have hn:¬(M.up=false∨eF m d.length=false):=by rw[fK,KK.out];simp
 cases hg:m.g with
 |false=>
  exact sE
 |true=>
  rw[hg]at y9;have hm:bd K.sp c (cN c) M m d=df K.sp c (kE M m d) (M.S (m.f 2).toNat).blk (sZ M m d):=by unfold bd;rw[if_neg hn,if_neg b8,if_neg b7,if_neg dR]
  have ht:bW K.sp c (cN c) M m d=ea K.sp c (cN c) (kE M m d) (M.S (m.f 2).toNat).blk (sZ M m d):=by unfold bW;rw[if_neg hn,if_neg b8,if_neg b7,if_neg dR]
  have Kx:sZ M m d=d:=by unfold sZ;rw[Da.out,wL.out,Int.toNat_natCast];rfl
  exact sw
end
section
variable {K:aZ}{c:aM}{Z:ZN}{w w':World}{o:cJ K c 0}{a:kK}{M:CM K.σ}{Dr:Nat→List Int}
theorem Lg (h:bA Z o a M Dr w){m:di}{v:Value}{d:List Int}(hd:cX Z w v d)(fK:M.up=true)(hb:eF m d.length=true)(h0:m.f 0=6)(ha:jP (cN c) M m=true)(ti:M.en.length≤1000000)(cw:K.sp.eE M.s<bN)(vy:∀j,j<cN c→(M.S j).op≠0→0≤(M.S j).blk∧(M.S j).blk<c.f 2)
 (np:∀(a:kK) (M:CM K.σ) (Dr:Nat→List Int) (w:World) (n:Nat) (v:Value) (d:List Int),bA Z o a M Dr w→(n:Int)<c.f 2→cX Z w v d→K.sp.eE M.s<bN→Calls Tryz.prog 53 #[aO a.x,.agg (fY n v)] w (Ht Z o a M n d w)):
 Calls Tryz.prog 17 #[aO a.x,.agg (aP m v)] w (tO Z o a M m d w):=by
 have HA:=ae ha;have Da:=ae h0;have Bx:=ae ti;have tJ:=ae cw;have KF:=ae vy;have KK:=ae hb;have R7:=ae np;clear ha ti cw vy np;have hs:=iE hb;have QZ:(m.f 0 != 5)=true:=by rw[h0];decide
 have QY:(m.f 0 != 6)=false:=by rw[h0];decide
 have h6e:(m.f 0==6)=true:=by rw[h0];decide
 have Kb:(m.f 0==7)=false:=by rw[h0];decide
 obtain⟨A,q,rfl⟩:=hd.shape;have bu:ag az w (w.alloc (.cells (aP m (.slice A d.length q)) 37)):=(ag.aj az w).alloc _;have bL:=ae<|fun k (hk:cR o a k)=>h.kB hk;have iA:=ae<|fun k (hk:mL o a k)=>h.uU hk;have kZ:=ae h.zb;have HB:=ae<|Box.fresh w 37 (aP m (.slice A d.length q));have HO:=ae<|bu.mono (S':=cR o a) fun k hk=>hk.elim;have H:=ae<|h.keep bu;have HD:=ae<|hd.keep bu;have HR:=ae<|fun(w':World)=>jI m A d.length q w';rw[hb]at HR;have mX:=h.nn.2.1;clear h hd bu h0 hb;unfold aP at HR
 go_enter Tryz.func17,Tryz.ntmps17
 go_upto_region 1 with fail;change Code.wp _ _ _ _ (w.alloc (.cells (aP m (.slice A d.length q)) 37));have fh:=aB (∀k,mL o a k→k≠w.heap.size) (fun k hk e=>by have:=iA.out k hk;omega);have kM:=aB (w.heap.size<(w.alloc (.cells (aP m (.slice A d.length q)) 37)).heap.size) bh;generalize w.alloc (.cells (aP m (.slice A d.length q)) 37)=W at *;obtain⟨mb,fW⟩:∃mb,mb=w.heap.size:=⟨_,rfl⟩;have pG:=aB (w.heap.size≤mb) (Nat.le_of_eq fW.symm);rw[←fW]at HB fh kM ⊢;clear fW;have x0:aw W mb 0 (m.f 0):=HB.af rfl;have x1:aw W mb 1 (m.f 1):=HB.af rfl;have x2:aw W mb 2 (m.f 2):=HB.af rfl;have x3:aw W mb 3 (m.f 3):=HB.af rfl;have x4:aw W mb 4 (m.f 4):=HB.af rfl;have x5:aw W mb 5 (m.f 5):=HB.af rfl;have x6:aw W mb 6 (m.f 6):=HB.af rfl;have x7:aw W mb 7 (m.f 7):=HB.af rfl;have x8:aw W mb 8 (m.f 8):=HB.af rfl;have x9:aE W mb 9 (.bool m.g):=HB.af rfl;have vx:aE W mb 10 (.slice A d.length q):=HB.af rfl;have kz:=H.yh;rw[fK]at kz;go_upto_region 3 with(go_at_call 52;refine(HR W).mono ?_;rintro e W1 ⟨rfl,aR⟩;have aX:=ae aR;clear aR);have y0:=aX.cell x0 id;have y2:=aX.cell x2 id;have y4:=aX.cell x4 id;have bU:=ae<|aX.aq HB id;have H1:=ae<|H.keep aX;have jL:=ae<|HD.keep aX;have bf:=ae<|HO.aC aX fun _ h=>h.elim;clear x0 x1 x2 x3 x4 x5 x6 x7 x8 x9 vx kz H HB HO HD;have jZ:=H1.pw;have hA:=HA.out;unfold jP at hA;rw[Da.out]at hA;simp only[Bool.and_eq_true,decide_eq_true_eq]at hA;obtain⟨⟨⟨⟨_,s1⟩,o1⟩,o2⟩,w1⟩:=hA;obtain⟨k,hk⟩:∃k:Nat,m.f 2=k:=⟨(m.f 2).toNat,ao⟩;rw[hk]at s1;rw[hk,Int.toNat_natCast]at o2 w1;have w1:(M.S k).wr=true:=by rw[w1];decide
 have oJ:k<cN c:=ao;have pr:(k:Int)<cN c:=ao;have U5:decide (cN c≤k)=false:=decide_eq_false ao;have EO:(0:Int)≤(k:Int):=Int.natCast_nonneg k;rw[hk]at y2;have Qa:(m.f 4==0)=false:=by simpa using o1
 have P9:((M.S k).op != m.f 4)=false:=by simpa using o2
 obtain⟨Ad,nd,md,eD⟩:=H1.DD k oJ;obtain⟨z0,z1,z2,z3,z4⟩:=bJ H1.slots oJ eD;rw[w1]at z3;have oF:=aB ((M.S k).op≠0) gQ;have oH:=ae oJ;have wL:=ae hk;have JU:=ae eD;clear o1 o2 w1 eD hk s1 hs;go_upto_region 6 with fail;have d0:aw W1.drew mb 0 (m.f 0):=y0;have d1:aw W1.drew mb 2 k:=y2;have d2:aw W1.drew mb 4 (m.f 4):=y4;have d3:aE W1.drew a.x 19 (aU a.a8 (cN c) (cN c)):=jZ;go_upto_region 6 with fail;refine dU (fun w':World=>aw w' mb 0 (m.f 0)∧aw w' mb 2 k∧aw w' mb 4 (m.f 4)∧aE w' a.x 19 (aU a.a8 (cN c) (cN c))) 22 fun aH=>?_
 refine bX [0,1,2,3,4,5,6,7,8,9,10,11,12,13,14,15,16,17,18,19,20,21] ?_;refine cG ?_;clear aH d0 d1 d2 d3;go_upto_region 8 with fail;have d0:aE W1.drew.drew a.x 19 (aU a.a8 (cN c) (cN c)):=jZ;have d1:aw W1.drew.drew mb 2 k:=y2;have d2:aw W1.drew.drew a.a8 (k*5) ((M.S k).op):=z0;have d3:aw W1.drew.drew a.a8 (k*5+1) ((M.S k).blk):=z1;have d4:aw W1.drew.drew a.a8 (k*5+2) ((M.S k).lev):=z2;have d5:aE W1.drew.drew a.a8 (k*5+3) (.bool true):=z3;have d6:aE W1.drew.drew a.a8 (k*5+4) (.slice Ad nd md):=z4;go_upto_region 8 with fail;refine dU (fun w':World=>aE w' a.x 19 (aU a.a8 (cN c) (cN c))∧aw w' mb 2 k∧aw w' a.a8 (k*5) ((M.S k).op)∧aw w' a.a8 (k*5+1) ((M.S k).blk)∧aw w' a.a8 (k*5+2) ((M.S k).lev)∧aE w' a.a8 (k*5+3) (.bool true)∧aE w' a.a8 (k*5+4) (.slice Ad nd md)) 9 fun aH=>?_
 refine bX [0,1,2,3,4,5,6,7] ?_;refine cM 8 fun Kc hK=>?_
 go_simp;have dq:ag az W1 (W1.drew.drew.alloc (.cells jY 54)):=(((ag.aj az W1).drew).drew).alloc _;have jX:=aB (Box (W1.drew.drew.alloc (.cells jY 54)) W1.heap.size 54 jY) (Box.fresh W1.drew.drew 54 jY);have H5:=ae<|H1.keep dq;have iG:=ae<|dq.aq bU id;have vg:=ae<|jL.keep dq;have bM:=ae<|bf.aC dq fun _ h=>h.elim;have lF:=aB (w.heap.size≤W1.heap.size∧mb≠W1.heap.size) (⟨bf.size,fun e=>by have:=bU.lt;omega⟩);have e0:=dq.cell jZ id;have e1:=dq.cell y2 id;have e2:=dq.cell z0 id;have e3:=dq.cell z1 id;have e4:=dq.cell z2 id;have e5:=dq.cell z3 id;have e6:=dq.cell z4 id;change Kc _ (W1.drew.drew.alloc (.cells jY 54));clear dq
 try rw[show W1.drew.drew.heap.size=W1.heap.size from rfl]
 generalize W1.drew.drew.alloc (.cells jY 54)=W5 at *;generalize W1.heap.size=tb at *;refine eh hK fun aH=>?_
 clear hK;refine cG ?_;clear aH d0 d1 d2 d3 d4 d5 d6 e0 e1 e2 e3 e4 e5 e6;go_upto_region 9 with(refine fJ #[ah (M.S k).op,ah (M.S k).blk,ah (M.S k).lev,.bool true,.slice Ad nd md] jX a6 ?_);have j6:ag (ar tb) W5 (W5.setRow tb #[ah (M.S k).op,ah (M.S k).blk,ah (M.S k).lev,.bool true,.slice Ad nd md]):=(ag.aj (ar tb) W5).au (.inl rfl) _;have iL:Wr Z (ar tb) W5:=fun j hj e=>by rw[show j=tb from e];exact⟨Nat.le_trans kZ lF.1,.inr fun cs hb=>(jX.off hb aD) rfl⟩
 have tq:=ae<|jX.au #[ah (M.S k).op,ah (M.S k).blk,ah (M.S k).lev,.bool true,.slice Ad nd md];have H6:=ae<|H5.dC j6 iL (fun j hj e=>by have:=iA.out j hj;have:=lF.1;have e:j=tb:=e;omega) fun j hj=>⟨_,_,(show j=tb from hj)▸jX.out,aD,aD,aD⟩;have kI:=ae<|j6.aq iG fun e=>lF.2 (show mb=tb from e);have oo:=ae<|vg.aA j6 iL;have cZ:=ae<|bM.aC j6 fun j hj=>.inr eK;clear j6 iL jX H5 iG vg bM;generalize W5.setRow tb #[ah (M.S k).op,ah (M.S k).blk,ah (M.S k).lev,.bool true,.slice Ad nd md]=W6 at *;have t0:aw W6 tb 0 ((M.S k).op):=tq.af rfl;have t3:aE W6 tb 3 (.bool true):=tq.af rfl;have u0:aw W6 mb 0 (m.f 0):=kI.af rfl;have u4:aw W6 mb 4 (m.f 4):=kI.af rfl;have Bp:=aB (cX Z W6 (.slice Ad nd md) (M.S k).ed) (JU.out▸H6.fw k oH);have bw:(k:Int)<cN c:=by have:=oH.out;omega
 have F4:(0:Int)≤(k:Int):=Int.natCast_nonneg k;go_upto_region 11 with fail;have d0:aE W6.drew a.x 19 (aU a.a8 (cN c) (cN c)):=H6.pw;have d1:aw W6.drew mb 2 k:=by rw[←wL.out];exact kI.af rfl
 go_upto_region 11 with fail;refine dU (fun w':World=>aE w' a.x 19 (aU a.a8 (cN c) (cN c))∧aw w' mb 2 k) 8 fun aH=>?_
 refine bX [0,1,2,3,4,5] ?_;refine cM 6 fun Kc hK=>?_
 go_simp;refine eh hK fun aH=>?_
 clear hK;refine bX [7] ?_;refine cG ?_;clear aH d0 d1 t0 t3 u0 u4;have sT:=aB (W6.drew.there a.a8 (k*5) 5) ((show Box W6.drew a.a8 54 _ from H6.slots).there (by rw[xD];have:=oH.out;omega));go_upto_region 12 with(refine wpList_store_mid rfl 54 _ _ rfl a.a8 (k*5) #[ah 0,ah 0,ah 0,.bool false,aJ] rfl rfl sT bZ a6 ?_);obtain⟨W7,e7⟩:∃W7,W7=((((((W6.drew).setCell ⟨a.a8,k*5,none⟩ (ah 0)).setCell ⟨a.a8,k*5+1,none⟩ (ah 0)).setCell ⟨a.a8,k*5+2,none⟩ (ah 0)).setCell ⟨a.a8,k*5+3,none⟩ (.bool false)).setCell ⟨a.a8,k*5+4,none⟩ aJ):=⟨_,rfl⟩;change Code.wp _ _ _ _ ((((((W6.drew).setCell ⟨a.a8,k*5,none⟩ (ah 0)).setCell ⟨a.a8,k*5+1,none⟩ (ah 0)).setCell ⟨a.a8,k*5+2,none⟩ (ah 0)).setCell ⟨a.a8,k*5+3,none⟩ (.bool false)).setCell ⟨a.a8,k*5+4,none⟩ aJ);have Yl:Box W7 a.a8 54 (mC (cN c) (aI (fun j=>sR (M.S j) (a.dv j)) k (sR EH aJ))):=by
  exact rB
 have j7:ag (ar a.a8) W6 W7:=e7▸((((((ag.aj (ar a.a8) W6).drew).setCell (p:=⟨a.a8,k*5,none⟩) (.inl (show ar a.a8 a.a8 from rfl)) _).setCell (p:=⟨a.a8,k*5+1,none⟩) (.inl (show ar a.a8 a.a8 from rfl)) _).setCell (p:=⟨a.a8,k*5+2,none⟩) (.inl (show ar a.a8 a.a8 from rfl)) _).setCell (p:=⟨a.a8,k*5+3,none⟩) (.inl (show ar a.a8 a.a8 from rfl)) _).setCell (p:=⟨a.a8,k*5+4,none⟩) (.inl (show ar a.a8 a.a8 from rfl)) _;have wH:∀j,ar a.a8 j→cR o a j:=fun j hj=>by rw[show j=a.a8 from hj];exact .inr (.inr (.inr (.inl rfl)))
 have Vd:Wr Z (ar a.a8) W6:=fun j hj hs=>H6.wr j hj (wH j hs)
 have H7:=ae<|H6.vi (s:=EH) j7 Yl (cX.nil _ _);have sV:=ae<|j7.aq kI fun e=>fh a.a8 (.inl (wH _ rfl)) (show mb=a.a8 from e).symm;have oD:=ae (j7.aq tq fun e=>by have:=bL.out a.a8 (wH _ rfl);have:=lF.1;have e:tb=a.a8:=e;omega);have vJ:=ae<|oo.aA j7 Vd;have Fb:=ae<|Bp.aA j7 Vd;have fC:=ae<|cZ.aC j7 fun j hj=>.inl (wH j hj);rw[←e7];clear e7 Yl j7 wH Vd bw F4 sT H6 kI tq oo Bp cZ;have y2:aw W7 mb 2 k:=by rw[←wL.out];exact sV.af rfl
 have y4:aw W7 mb 4 (m.f 4):=sV.af rfl;have y8:aw W7 mb 8 (m.f 8):=sV.af rfl;have t3:aE W7 tb 3 (.bool true):=oD.af rfl;go_upto_region 13 with fail;change Code.wp _ _ _ _ (W7.alloc (.cells (FZ k (m.f 4) true (m.f 8) aJ) 58));have J9:ag az W7 (W7.alloc (.cells (FZ k (m.f 4) true (m.f 8) aJ) 58)):=(ag.aj az W7).alloc _;have Ar:=ae<|Box.fresh W7 58 (FZ k (m.f 4) true (m.f 8) aJ);have H8:=ae<|H7.keep J9;have Bm:=ae<|J9.aq sV id;have DJ:=ae<|J9.aq oD id;have MD:=ae<|vJ.keep J9;have VY:=ae<|Fb.keep J9;have ix:=ae<|fC.aC J9 fun _ h=>h.elim;have tu:=aB (w.heap.size≤W7.heap.size∧W7.heap.size≠mb∧W7.heap.size≠tb) (⟨fC.size,fun e=>by have:=sV.lt;omega,fun e=>by have:=oD.lt;omega⟩);clear J9 y2 y4 y8 t3 H7 sV oD vJ Fb fC;generalize W7.alloc (.cells (FZ k (m.f 4) true (m.f 8) aJ) 58)=W8 at *;generalize W7.heap.size=rb at *;have w4:aE W8 tb 4 (.slice Ad nd md):=DJ.af rfl;have w3:aE W8 tb 3 (.bool true):=DJ.af rfl;go_upto_region 17 with fail;clear w4 w3;have H9:=H8;have zL:=Bm;have Qs:=DJ;have gW:=Ar;have BA:=VY;have Br:=ae<|cX.nil Z W8;have kf:=ix;clear H8 Bm DJ Ar VY MD ix;generalize W8=W9 at *;obtain⟨Ae,ce,uh,_,_⟩:=H9.en.shape;have uh:a.en= .slice Ae M.en.length ce:=uh;have nc:=ae uh;obtain⟨X,e1,r1,d1⟩:=H9.en;have cQ:ag az W9 (W9.alloc (.cells (jD ⟨k,m.f 4,true,m.f 8,[]⟩ aJ).toArray 58)).drew:=((ag.aj az W9).alloc _).drew;have CV:=aB (∀j u,(jD ⟨k,m.f 4,true,m.f 8,[]⟩ aJ)[j]? =some u→(W9.alloc (.cells (jD ⟨k,m.f 4,true,m.f 8,[]⟩ aJ).toArray 58)).drew.cell? ((⟨W9.heap.size,0,none⟩:Addr).add j)=some u) (cV W9 _ _);have lH:=ae e1;have AW:=bk r1 cQ fun _ _=>id
 rw[show({a with dv:=aI a.dv k aJ}:kK).en= .slice Ae M.en.length ce from uh]at AW;have b5:=ae AW;have JW:=ae<|fun p hp=>(d1 p hp).keep cQ;have wO:=ae<|H9.keep cQ;have Hz:=ae<|Br.keep cQ;have Ie:=ae<|BA.keep cQ;have Dl:=ae<|cQ.aq zL id;have Fa:=ae<|cQ.aq Qs id;have Ia:=ae<|cQ.aq gW id;have kh:=ae<|kf.aC cQ fun _ h=>h.elim;have tF:=aB (Z.B≤(W9.alloc (.cells (jD ⟨k,m.f 4,true,m.f 8,[]⟩ aJ).toArray 58)).drew.heap.size) (Nat.le_trans H9.zb cQ.size);have Ke:=aB (X.length≤1000000) (by
  have h8:X.length=M.en.length:=by rw[←List.length_map (f:=Prod.fst),e1]
  have h9:=Bx.out;omega)
 have kk:aE W9.drew a.x 22 (.slice Ae M.en.length ce):=by rw[←nc.out];exact H9.Qn
 have k0:aw W9.drew rb 0 k:=gW.af rfl;have k1:aw W9.drew rb 1 (m.f 4):=gW.af rfl;have k2:aE W9.drew rb 2 (.bool true):=gW.af rfl;have k3:aw W9.drew rb 3 (m.f 8):=gW.af rfl;have k4:aE W9.drew rb 4 aJ:=gW.af rfl;have Q3:=cQ.cell (show aE W9 a.x 22 (.slice Ae M.en.length ce)from kk) id;have e0:=cQ.cell (show W9.cell? _=_ from k0) id;have ZX:=cQ.cell (show W9.cell? _=_ from k1) id;have e2:=cQ.cell (show W9.cell? _=_ from k2) id;have e3:=cQ.cell (show W9.cell? _=_ from k3) id;have e4:=cQ.cell (show W9.cell? _=_ from k4) id;clear uh e1 r1 AW d1 cQ;go_upto_region 17 with fail;refine dU (fun w':World=>aE w' a.x 22 (.slice Ae M.en.length ce)∧aw w' rb 0 k∧aw w' rb 1 (m.f 4)∧aE w' rb 2 (.bool true)∧aw w' rb 3 (m.f 8)∧aE w' rb 4 aJ) 8 fun aH=>?_
 refine bX [0,1,2,3,4,5] ?_;refine cM 6 fun Kc hK=>?_
 go_simp;refine eh hK fun aH=>?_
 clear hK;refine cM 7 fun Kc hK=>?_
 refine nV _ (.tmp 112) (.tmp 114) 50 58 rfl yO rfl aD Tryz.underlying50 Z.B (.slice Ae M.en.length ce) X.length _ (jD ⟨k,m.f 4,true,m.f 8,[]⟩ aJ) rfl b5 ⟨W9.heap.size,0,none⟩ rfl rfl CV eM bR bQ tF ?_;intro v6 ga h6 bT h9;have EN:∀j,aK v6 j→aK a.en j∨(W9.alloc (.cells (jD ⟨k,m.f 4,true,m.f 8,[]⟩ aJ).toArray 58)).drew.heap.size≤j:=fun j hj=>by
  exact jo
 have bT:ag (aK a.en) (W9.alloc (.cells (jD ⟨k,m.f 4,true,m.f 8,[]⟩ aJ).toArray 58)).drew ga:=by rw[nc.out];exact bT
 have wG:Wr Z (aK a.en) (W9.alloc (.cells (jD ⟨k,m.f 4,true,m.f 8,[]⟩ aJ).toArray 58)).drew:=fun j hj hs=>wO.wr j hj (.inr (.inr (.inr (.inr hs))))
 have pC:∀j,w.heap.size≤j→¬aK a.en j:=fun j hj e=>by have:=bL.out j (.inr (.inr (.inr (.inr e))));omega
 have tH:=ae<|dy.app (v:=v6) (⟨k,m.f 4,true,m.f 8,[]⟩,aJ) h6 lH (fun p hp=>(JW p hp).aA bT wG) (Hz.aA bT wG);have zI:=ae EN;have GD:=ae bT;have G7:=ae<|bT.aq Dl (pC _ pG);have RL:=ae<|bT.aq Fa (pC _ lF.1);have oR:=ae<|bT.aq Ia (pC _ tu.1);have Ic:=ae<|Ie.aA bT wG;have gX:=bT.aq wO.aq (wO.tC wO.aq aD);have kk:aE ga a.x 22 (.slice Ae M.en.length ce):=by rw[←nc.out];exact gX.af rfl
 have k0:aw ga rb 0 k:=oR.af rfl;have k1:aw ga rb 1 (m.f 4):=oR.af rfl;have k2:aE ga rb 2 (.bool true):=oR.af rfl;have k3:aw ga rb 3 (m.f 8):=oR.af rfl;have k4:aE ga rb 4 aJ:=oR.af rfl;have f22:ga.frozen? ⟨a.x,22,none⟩=false:=gX.free _;obtain⟨A6,c6,e6,_,_⟩:=cz h6;subst e6;have xc:=ae gX;clear h6 bT h9 EN wG gX pC;refine eh hK fun aH=>?_
 clear hK;refine cG ?_;clear aH Q3 e0 ZX e2 e3 e4 k0 k1 k2 k3 k4;go_upto_region 18 with fail;change Code.wp _ _ _ _ (ga.setCell ⟨a.x,22,none⟩ (.slice A6 (X.length+1) c6));obtain⟨ER,dL⟩:=wO.pH GD tH zI;have j7:ag (ar a.x) ga (ga.setCell ⟨a.x,22,none⟩ (.slice A6 (X.length+1) c6)):=(ag.aj (ar a.x) ga).setCell (p:=⟨a.x,22,none⟩) (.inl (show ar a.x a.x from rfl)) _;have wH:Wr Z (ar a.x) ga:=fun j _ e=>by
  exact qV
 have ZI:a.x<w.heap.size:=bL.out a.x (.inr (.inl rfl));have H11:=aB (bA Z o {a with dv:=aI a.dv k aJ,en:=.slice A6 (X.length+1) c6} (kE M m d) Dr _) (by rw[←Ek (M:=M) (d:=d) wL.out Da.out];exact ER);have KJ:=ae<|kh.trans dL;have abj:=ae (j7.aq G7 fun e=>by have:=pG.out;have e:mb=a.x:=e;omega);have ada:=ae (j7.aq RL fun e=>by have:=lF.1;have e:tb=a.x:=e;omega);have Zl:=ae<|Ic.aA j7 wH;have CO:∀j,aK (.slice A6 (X.length+1) c6) j→aK a.en j∨w.heap.size≤j:=fun j hj=>(zI j hj).imp id fun e=>Nat.le_trans kh.size e
 have py:=aB (∀j,cR o {a with dv:=aI a.dv k aJ,en:=.slice A6 (X.length+1) c6} j→cR o a j∨w.heap.size≤j) (fun j hj=>by
  rcases hj with e|e|e|e|e
  ·exact .inl (.inl e)
  ·exact .inl (.inr (.inl e))
  ·exact .inl (.inr (.inr (.inl e)))
  ·exact .inl (.inr (.inr (.inr (.inl e))))
  ·exact(CO j e).imp (fun e=>.inr (.inr (.inr (.inr e)))) id)
 clear ER dL j7 wH CO ZI kk k0 k1 k2 k3 k4 f22 GD tH zI xc kh Hz Ie Ic wO Dl G7 Fa RL Ia oR b5 JW CV tF H9 zL Qs gW BA Br kf;generalize ga.setCell ⟨a.x,22,none⟩ (.slice A6 (X.length+1) c6)=Bd at *;have y9:aE Bd mb 9 (.bool m.g):=abj.af rfl;have hn:¬(M.up=false∨eF m d.length=false):=by rw[fK,KK.out];simp
 cases hg:m.g with
 |false=>
  exact sE
 |true=>
  rw[hg]at y9;have hm:bd K.sp c (cN c) M m d=df K.sp c (kE M m d) (M.S (m.f 2).toNat).blk (sZ M m d):=by unfold bd;rw[if_neg hn,if_neg b8,if_neg b7,if_neg dR]
  have ht:bW K.sp c (cN c) M m d=ea K.sp c (cN c) (kE M m d) (M.S (m.f 2).toNat).blk (sZ M m d):=by unfold bW;rw[if_neg hn,if_neg b8,if_neg b7,if_neg dR]
  have Kx:sZ M m d=(M.S k).ed:=by unfold sZ;rw[Da.out,wL.out,Int.toNat_natCast];rfl
  exact sw
end
variable {K:aZ}{c:aM}{Z:ZN}{w w':World}{o:cJ K c 0}{a:kK}{M:CM K.σ}{Dr:Nat→List Int}
def VU (Z:ZN)(o:cJ K c 0)(a:kK)(M:CM K.σ)(Dr:Nat→List Int)(w:World)(told i:Value)(wr:World):Prop:=
 ∃k:Nat,k≤cN c∧i=ah k∧bg Z wr w.heap.size told (dx M.S k)∧bA Z o a M Dr wr∧ag az w wr
section
theorem Tu (h:bA Z o a M Dr w):
 Calls Tryz.prog 57 #[aO a.x] w fun e w'=>∃v,e= .returned v∧bg Z w' w.heap.size v (dx M.S (cN c))∧ag az w w':=by
 have H:=ae h;have iA:=ae<|fun k (hk:mL o a k)=>h.uU hk;have kZ:=ae h.zb;have mX:=h.nn.2.1;clear h
 go_enter Tryz.func57,Tryz.ntmps57
 go_upto_region 2 with fail;have s9:=H.pw;go_wp2_with fail;clear s9
 go_loopw [3,4] (fun told i wr=>VU Z o a M Dr w told i wr) (fun _ i _=>cN c - (intOf i).toNat)
 case atStart=>exact⟨0,dT _,rfl,bg.nil _ _ _,H,ag.aj _ _⟩
 case round=>
  obtain⟨k,hk,rfl,F3,fL,ho⟩:=hrel;obtain⟨At,ct,et,_,_⟩:=F3.shape;subst et;have CU:=ae F3;have H2:=ae fL;have bf:=ae ho;clear F3 fL ho;have s9:=H2.pw
  by_cases aY:k<cN c
  ·have oH:=ae aY;have EW:=aB ((dx M.S k).length≤3) (by have:=uD M.S k;omega);obtain⟨Ad,nd,md,eD⟩:=H2.DD k aY;obtain⟨y0,_,_,_,_⟩:=bJ H2.slots aY eD;have pr:(k:Int)<cN c:=ao;have EO:(0:Int)≤(k:Int):=Int.natCast_nonneg k;clear aY hk eD
   by_cases yn:(M.S k).op=0
   ·have aak:((M.S k).op != 0)=false:=by simpa using yn
    have HR:=aB (VU Z o a M Dr w (.slice At (dx M.S k).length ct) (ah ((k:Int)+1)) wr) (⟨k+1,oH,by simp,by rw[xK yn];exact CU,H2,bf⟩);exact rP
   have aak:((M.S k).op != 0)=true:=by simpa using yn
   have oF:=ae yn;clear yn
   cases hw:(M.S k).wr with
   |false=>
    have hs:M.S k=⟨(M.S k).op,(M.S k).blk,(M.S k).lev,false,(M.S k).ed⟩:=by rw[←hw]
    have uW:ie k (M.S k)=CH 1 k (M.S k).op (M.S k).blk (M.S k).lev 0 []:=by unfold ie;rw[hw];rfl
    have HA:=ae<|Cj H2 oH hs;have Gz:=ae uW;unfold dW at HA;clear hs uW hw;go_upto_region 4 with(first|(go_at_call 48;refine HA.mono ?_;rintro e W7 ⟨A7,n7,m7,rfl,Ba,dL⟩;have bu:=dL.alloc (.cells (dW 1 k (M.S k).op (M.S k).blk (M.S k).lev (.slice A7 n7 m7)) 37);have H7:=ae<|H2.keep bu;have fC:=ae<|bf.trans bu;have ej:=ae<|CU.keep bu;have vJ:=ae<|Ba.keep ((ag.aj az W7).alloc (.cells (dW 1 k (M.S k).op (M.S k).blk (M.S k).lev (.slice A7 n7 m7)) 37));obtain⟨X,e1,r1,d1⟩:=ej.out;have lH:=ae e1;have b5:=ae r1;have tI:=ae d1;have Ke:=aB (X.length≤4) (by(have h9:=EW.out;have h8:X.length=(dx M.S k).length:=jx;omega));clear bu Ba dL e1 r1 d1)|(at_builtin;refine ef _ rfl (.tmp 23) (.tmp 27) 40 37 rfl oC rfl aD Tryz.underlying40 w.heap.size _ X.length _ (dW 1 k (M.S k).op (M.S k).blk (M.S k).lev (.slice A7 n7 m7)).toList rfl b5 ⟨W7.heap.size,0,none⟩ rfl rfl (cV W7 _ _) dS bR bQ fC.size ?_;intro v8 W8 h8 eT _;have kW:=ej.wr kZ.out;have nL:=ae<|bg.app (v':=undef) (CH 1 k (M.S k).op (M.S k).blk (M.S k).lev 0 [],.slice A7 n7 m7) h8 lH (fun q hq=>(tI q hq).aA eT kW) (vJ.aA eT kW);have H8:=ae<|H7.dC eT kW (fun j hj e=>by have:=(ej.aq e).1;have:=iA.out j hj;omega) (fun j hj=>by obtain⟨_,cs,hb⟩:=ej.aq hj;exact⟨_,cs,hb,aD,aD,aD⟩);have ix:=ae<|fC.aC eT fun j hj=>.inr (ej.aq hj).1;obtain⟨A8,c8,e8,_,_⟩:=cz h8;subst e8;clear h8 eT kW));have HR:=aB (VU Z o a M Dr w (.slice A8 (X.length+1) c8) (ah ((k:Int)+1)) W8) (⟨k+1,oH,by simp,by rw[kS oF.out,Gz.out];exact nL,H8,ix⟩);exact gE
   |true=>
    have hs:M.S k=⟨(M.S k).op,(M.S k).blk,(M.S k).lev,true,(M.S k).ed⟩:=by rw[←hw]
    have uW:ie k (M.S k)=CH 2 k (M.S k).op (M.S k).blk (M.S k).lev 0 (M.S k).ed:=by unfold ie;rw[hw];rfl
    have HA:=ae<|zZ H2 oH hs;have Gz:=ae uW;unfold dW at HA;clear hs uW hw;go_upto_region 4 with(first|(go_at_call 48;refine HA.mono ?_;rintro e W7 ⟨A7,n7,m7,rfl,Ba,dL⟩;have bu:=dL.alloc (.cells (dW 2 k (M.S k).op (M.S k).blk (M.S k).lev (.slice A7 n7 m7)) 37);have H7:=ae<|H2.keep bu;have fC:=ae<|bf.trans bu;have ej:=ae<|CU.keep bu;have vJ:=ae<|Ba.keep ((ag.aj az W7).alloc (.cells (dW 2 k (M.S k).op (M.S k).blk (M.S k).lev (.slice A7 n7 m7)) 37));obtain⟨X,e1,r1,d1⟩:=ej.out;have lH:=ae e1;have b5:=ae r1;have tI:=ae d1;have Ke:=aB (X.length≤4) (by(have h9:=EW.out;have h8:X.length=(dx M.S k).length:=jx;omega));clear bu Ba dL e1 r1 d1)|(at_builtin;refine ef _ rfl (.tmp 23) (.tmp 27) 40 37 rfl oC rfl aD Tryz.underlying40 w.heap.size _ X.length _ (dW 2 k (M.S k).op (M.S k).blk (M.S k).lev (.slice A7 n7 m7)).toList rfl b5 ⟨W7.heap.size,0,none⟩ rfl rfl (cV W7 _ _) dS bR bQ fC.size ?_;intro v8 W8 h8 eT _;have kW:=ej.wr kZ.out;have nL:=ae<|bg.app (v':=undef) (CH 2 k (M.S k).op (M.S k).blk (M.S k).lev 0 (M.S k).ed,.slice A7 n7 m7) h8 lH (fun q hq=>(tI q hq).aA eT kW) (vJ.aA eT kW);have H8:=ae<|H7.dC eT kW (fun j hj e=>by have:=(ej.aq e).1;have:=iA.out j hj;omega) (fun j hj=>by obtain⟨_,cs,hb⟩:=ej.aq hj;exact⟨_,cs,hb,aD,aD,aD⟩);have ix:=ae<|fC.aC eT fun j hj=>.inr (ej.aq hj).1;obtain⟨A8,c8,e8,_,_⟩:=cz h8;subst e8;clear h8 eT kW));have HR:=aB (VU Z o a M Dr w (.slice A8 (X.length+1) c8) (ah ((k:Int)+1)) W8) (⟨k+1,oH,by simp,by rw[kS oF.out,Gz.out];exact nL,H8,ix⟩);exact gE
  ·obtain rfl:k=cN c:=ao;go_wp2_with fail;go_ret;exact⟨_,rfl,CU,bf⟩
end
section
variable {c:aM}{hP:cK c}{hk:0<3}{Z:ZN}{w:World}{o:cJ (aQ c 0 hP hk) c 0}{r:kK}{M:CM (aQ c 0 hP hk).σ}{Dr:Nat→List Int}
theorem Tt (h:bA Z o r M Dr w){m:di}{v:Value}{d:List Int}(hd:cX Z w v d)(ti:M.en.length≤1000000)(cw:(aQ c 0 hP hk).sp.eE M.s<bN)
 (vy:∀j,j<cN c→(M.S j).op≠0→0≤(M.S j).blk∧(M.S j).blk<c.f 2):
 Calls Tryz.prog 17 #[aO r.x,.agg (aP m v)] w (tO Z o r M m d w):=by
 cases fK:M.up with
 |false=>exact D5 h hd (.inl fK)
 |true=>
  cases hb:eF m d.length with
  |false=>exact D5 h hd (.inr hb)
  |true=>
   have wD:=fun(a:kK) (M:CM (aQ c 0 hP hk).σ) (Dr:Nat→List Int) (w:World) (n:Nat) (v:Value) (d:List Int) (h:bA Z o a M Dr w) h1 h2 h3=>OO (n:=n) (v:=v) (d:=d) h h1 h2 h3
   by_cases h7:m.f 0=7
   ·exact OI h hd fK hb h7
   by_cases h6:m.f 0=6
   ·cases ha:jP (cN c) M m with
    |false=>exact Le h hd fK hb h6 ha
    |true=>exact Lg h hd fK hb h6 ha ti cw vy wD
   by_cases h5:m.f 0=5
   ·cases ha:jP (cN c) M m with
    |false=>exact Lf h hd fK hb h5 ha
    |true=>exact Lh h hd fK hb h5 ha ti cw vy wD
   exact I9 h hd fK hb h5 h6 h7
end
def tk {K:aZ}{c:aM}(a:cH K)(o:cJ K c 0)(r:kK):Nat→Prop:=fun k=>b6 a k∨cR o r k
def LjX {K:aZ}{c:aM}(a:cH K)(o:cJ K c 0)(r:kK):Nat→Prop:=fun k=>jG c a k∨mL o r k
structure zD {K:aZ}{c:aM}(a:cH K)(o:cJ K c 0)(r:kK)(a':cH K)(o':cJ K c 0)(r':kK)(w w':World):Prop where
 l:a'.l=a.l
 x:r'.x=r.x
 W:∀k,tk a' o' r' k→tk a o r k∨w.heap.size≤k
 X:∀k,LjX a' o' r' k→LjX a o r k∨w.heap.size≤k
 o:ag (tk a o r) w w'
section
variable {K:aZ}{c:aM}{Z:ZN}{w w' w2:World}{a a' a2:cH K}{o o' o2:cJ K c 0}{r r' r2:kK}{M M1 M2:CM K.σ}{Dr:Nat→List Int}
theorem zD.refl (ho:ag az w w'):zD a o r a o r w w':=⟨rfl,rfl,fun _ h=>.inl h,fun _ h=>.inl h,ho.mono fun _ h=>h.elim⟩
theorem zD.trans (h:zD a o r a' o' r' w w')(k:zD a' o' r' a2 o2 r2 w' w2):zD a o r a2 o2 r2 w w2 where
 l:=k.l.trans h.l
 x:=k.x.trans h.x
 W:=fun j hj=>by
  rcases k.W j hj with e|e
  ·exact h.W j e
  ·exact .inr (Nat.le_trans h.o.size e)
 X:=fun j hj=>by
  rcases k.X j hj with e|e
  ·exact h.X j e
  ·exact .inr (Nat.le_trans h.o.size e)
 o:=h.o.aC k.o fun j hj=>h.W j hj
theorem zD.keep (h:zD a o r a' o' r' w w')(ho:ag az w' w2):zD a o r a' o' r' w w2:=h.trans (zD.refl ho)
theorem ib.lj (h:ib c a a' w w'):zD a o r a' o r w w' where
 l:=h.l
 x:=rfl
 W:=fun k hk=>by
  rcases hk with e|e
  ·exact(h.W k e).imp .inl id
  ·exact .inl (.inr e)
 X:=fun k hk=>by
  rcases hk with e|e
  ·exact(h.X k e).imp .inl id
  ·exact .inl (.inr e)
 o:=h.o.mono fun k hk=>.inl (.inl hk)
theorem vO.lj (h:vO o r r' w w'):zD a o r a o r' w w' where
 l:=rfl
 x:=h.x
 W:=fun k hk=>by
  rcases hk with e|e
  ·exact .inl (.inl e)
  ·exact(h.W k e).imp .inr id
 X:=fun k hk=>by
  rcases hk with e|e|⟨h0,e⟩
  ·exact .inl (.inl e)
  ·exact(h.W k e).imp (fun e=>.inr (.inl e)) id
  ·rw[h.hv]at e;exact .inl (.inr (.inr ⟨h0,e⟩))
 o:=h.ow.mono fun k hk=>.inl (.inr hk)
theorem LJ.kB (h:LJ Z a o r M1 M2 Dr w){k:Nat}(hk:tk a o r k):k<w.heap.size:=hk.elim (fun e=>h.p.kB e) fun e=>h.q.kB e
theorem LJ.uU (h:LJ Z a o r M1 M2 Dr w){k:Nat}(hk:LjX a o r k):k<w.heap.size:=hk.elim (fun e=>h.p.uU e) fun e=>h.q.uU e
theorem LJ.mH {S:Nat→Prop}(h:LJ Z a o r M1 M2 Dr w)(ho:ag S w w')(hS:Wr Z S w)(hX:∀k,LjX a o r k→¬S k)(hT:∀k t cs,S k→¬Box w k t cs):LJ Z a o r M1 M2 Dr w':=
 ⟨h.p.dC ho hS fun k hk=>hX k (.inl hk),h.q.off ho hS (fun k hk=>hX k (.inr (.inl hk))) (fun k cs hk=>⟨hT k _ _ hk,hT k _ _ hk,hT k _ _ hk⟩) (fun h0 k hk=>hX k (.inr (.inr ⟨h0,hk⟩))),h.sep⟩
theorem LJ.lo (h:LJ Z a o r M1 M2 Dr w){k:Nat}(hk:tk a o r k):Z.B≤k:=hk.elim (fun e=>h.p.lo k e) fun e=>h.q.lo k e
theorem LJ.zb (h:LJ Z a o r M1 M2 Dr w):Z.B≤w.heap.size:=h.p.zb
theorem LJ.Md (h:LJ Z a o r M1 M2 Dr w):Wr Z (tk a o r) w:=fun k hk e=>e.elim (h.p.wr k hk) (h.q.wr k hk)
end
section
variable {c:aM}{hP:cK c}{hk:0<3}{Z:ZN}{w:World}{a:cH (aQ c 0 hP hk)}{o:cJ (aQ c 0 hP hk) c 0}{r:kK}{N M2:CM (aQ c 0 hP hk).σ}{Dr:Nat→List Int}{e1 e2:List nP}{k:Nat}
theorem uF (h:LJ Z a o r (N.wE e1) M2 Dr w)(hp:DF (aQ c 0 hP hk) c N k)(nO:k≤1000)(he:e1.length≤1000){i b:Int}{wr:Bool}{v:Value}{d:List Int}(hc:dJ c N.S i wr b d.length=0)(hd:cX Z w v d):
 Calls Tryz.prog 13 #[aO a.l,ah i,.bool wr,ah b,v] w fun e w'=>∃u a',e= .returned (.tuple #[ah (N.ops+1:Nat),u,ah 0])∧bg Z w' w.heap.size u (dK (aQ c 0 hP hk).sp c (cN c) N i.toNat wr b d)∧
  LJ Z a' o r ((bB (aQ c 0 hP hk).sp c (cN c) N i.toNat wr b d).wE (e1 ++ (bB (aQ c 0 hP hk).sp c (cN c) N i.toNat wr b d).en)) M2 Dr w'∧zD a o r a' o r w w':=by
 obtain⟨⟨j,rfl,hj⟩,⟨q,rfl,hq⟩,_⟩:=uC hP hc;have ZR:(aQ c 0 hP hk).sp.eE (bG (aQ c 0 hP hk).sp c (cN c) (N.wE e1) q).s<bN:=by
  have h1:=zj (sp:=(aQ c 0 hP hk).sp) (c:=c) (n:=cN c) (M:=N.wE e1) ((aQ c 0 hP hk).oc a.i).KA q;have h2:(aQ c 0 hP hk).sp.eE (N.wE e1).s≤k:=hp.eE;unfold bN;omega
 have Bn:(N.wE e1).ops≤1000000:=by have:(N.wE e1).ops≤k:=hp.ops;omega
 refine(vw (wr:=wr) h.p hj hq hc hd Bn (show e1.length≤1000000 by omega) ZR).mono ?_;rintro e w' ⟨u,a',rfl,hm,hb,hs⟩;rw[Ct]at hm;rw[Cu hp.en]at hb;rw[Int.toNat_natCast];exact⟨u,a',rfl,hm,h.prog hb hs,hs.lj⟩
theorem zm {M1:CM (aQ c 0 hP hk).σ}(h:LJ Z a o r M1 (N.wE e2) Dr w)(hp:DF (aQ c 0 hP hk) c N k)(nO:k≤1000)(he:e2.length≤1000){i b:Int}{wr:Bool}{v:Value}{d:List Int}(hc:dJ c N.S i wr b d.length=0)(hd:cX Z w v d):
 Calls Tryz.prog 14 #[aO r.x,ah i,.bool wr,ah b,v] w fun e w'=>∃u r' uO,e= .returned u∧bg Z w' w.heap.size u (dK (aQ c 0 hP hk).sp c (cN c) N i.toNat wr b d)∧
  LJ Z a o r' M1 ((bB (aQ c 0 hP hk).sp c (cN c) N i.toNat wr b d).wE (e2 ++ (bB (aQ c 0 hP hk).sp c (cN c) N i.toNat wr b d).en)) uO w'∧zD a o r a o r' w w':=by
 obtain⟨⟨j,rfl,hj⟩,⟨q,rfl,hq⟩,_⟩:=uC hP hc;have ZR:(aQ c 0 hP hk).sp.eE (bG (aQ c 0 hP hk).sp c (cN c) (N.wE e2) q).s<bN:=by
  have h1:=zj (sp:=(aQ c 0 hP hk).sp) (c:=c) (n:=cN c) (M:=N.wE e2) ((aQ c 0 hP hk).oc a.i).KA q;have h2:(aQ c 0 hP hk).sp.eE (N.wE e2).s≤k:=hp.eE;unfold bN;omega
 have Bn:(N.wE e2).ops≤1000000:=by have:(N.wE e2).ops≤k:=hp.ops;omega
 refine(OS (wr:=wr) h.q hj hq hd Bn (show e2.length≤1000000 by omega) ZR).mono ?_;rintro e w' ⟨u,r',uO,rfl,hm,hb,hs⟩;rw[Ct]at hm;rw[Cu hp.en]at hb;rw[Int.toNat_natCast];exact⟨u,r',uO,rfl,hm,h.ref hb hs,hs.lj⟩
theorem B0 (h:LJ Z a o r (N.wE e1) M2 Dr w)(uV:∀b,b∈(aQ c 0 hP hk).sp.all N.s→0≤b∧b<c.f 2)(hp:DF (aQ c 0 hP hk) c N k)(nO:k≤1000)(he:e1.length≤1000){m:di}{v:Value}{d:List Int}(hd:cX Z w v d):
 Calls Tryz.prog 16 #[aO a.l,.agg (aP m v)] w fun e w'=>∃u a',e= .returned u∧bg Z w' w.heap.size u (bW (aQ c 0 hP hk).sp c (cN c) N m d)∧
  LJ Z a' o r ((bd (aQ c 0 hP hk).sp c (cN c) N m d).wE (e1 ++ (bd (aQ c 0 hP hk).sp c (cN c) N m d).en)) M2 Dr w'∧zD a o r a' o r w w':=by
 have ZR:(aQ c 0 hP hk).sp.eE (N.wE e1).s<bN:=by
  have h2:(aQ c 0 hP hk).sp.eE (N.wE e1).s≤k:=hp.eE;unfold bN;omega
 refine(Ug h.p hd (show e1.length≤1000000 by omega) uV ZR hp.sl).mono ?_;rintro e w' ⟨u,a',rfl,hm,hb,hs⟩;rw[Ef hp.en]at hm;rw[Eg hp.en]at hb;exact⟨u,a',rfl,hm,h.prog hb hs,hs.lj⟩
theorem BZ {M1:CM (aQ c 0 hP hk).σ}(h:LJ Z a o r M1 (N.wE e2) Dr w)(hp:DF (aQ c 0 hP hk) c N k)(nO:k≤1000)(he:e2.length≤1000){m:di}{v:Value}{d:List Int}(hd:cX Z w v d):
 Calls Tryz.prog 17 #[aO r.x,.agg (aP m v)] w fun e w'=>∃u r' uO,e= .returned u∧bg Z w' w.heap.size u (bW (aQ c 0 hP hk).sp c (cN c) N m d)∧
  LJ Z a o r' M1 ((bd (aQ c 0 hP hk).sp c (cN c) N m d).wE (e2 ++ (bd (aQ c 0 hP hk).sp c (cN c) N m d).en)) uO w'∧zD a o r a o r' w w':=by
 have ZR:(aQ c 0 hP hk).sp.eE (N.wE e2).s<bN:=by
  have h2:(aQ c 0 hP hk).sp.eE (N.wE e2).s≤k:=hp.eE;unfold bN;omega
 refine(Tt h.q hd (show e2.length≤1000000 by omega) ZR hp.sl).mono ?_;rintro e w' ⟨u,r',uO,rfl,hm,hb,hs⟩;rw[Ef hp.en]at hm;rw[Eg hp.en]at hb;exact⟨u,r',uO,rfl,hm,h.ref hb hs,hs.lj⟩
end
theorem Ur (a:iO)(dv:Value){j:Nat}{v:Value}(hj:(aP a.m dv).toList[j]? =some v):(bV a dv)[3+j]? =some v:=by
 match j,hj with
 |0,h=>exact h
 |1,h=>exact h
 |2,h=>exact h
 |3,h=>exact h
 |4,h=>exact h
 |5,h=>exact h
 |6,h=>exact h
 |7,h=>exact h
 |8,h=>exact h
 |9,h=>exact h
 |10,h=>exact h
theorem lz (m:di)(A:Option Addr)(n c:Nat):(aP m (.slice A n c)).all (·.oneCell')=true:=by simp[aP,Value.oneCell']
def acb (Z:ZN)(p:PM)(w:World)(e:Ending)(w':World):Prop:=∃A q,e= .returned (.agg (aP p.m (.slice A p.d.length q)))∧cX Z w' (.slice A p.d.length q) p.d∧ag az w w'
section
variable {K:aZ}{c:aM}{Z:ZN}{w:World}{o:cJ K c 0}{r:kK}{M:CM K.σ}{Dr:Nat→List Int}
theorem qg{P:Prop}(h:P:=by
 refine cG ?_;clear aH d0 d1 d2 x0 x1 s9;have HC:=aB (∀j v,(aP a.m (.slice A a.d.length q)).toList[j]? =some v→aE W1.drew ab (3+j) v) (fun j v hj=>eV.drew.af (Ur a _ hj));have HRD:=ae b5.drew;go_wp2_with (first|(refine wpList_load_mid rfl 37 _ rfl ab 3 rfl (aP a.m (.slice A a.d.length q)).toList _ HC Tryz.underlying37 rfl bZ ?_)|(refine fJ (aP a.m (.slice A a.d.length q)) HRD (lz _ _ _ _) ?_));have j9:ag (ar rb) W1 (W1.drew.setRow rb (aP a.m (.slice A a.d.length q))):=(((ag.aj (ar rb) W1).drew)).au (.inl rfl) _;have Vf:Wr Z (ar rb) W1:=fun j hj e=>by rw[show j=rb from e];exact⟨Nat.le_trans kZ tu,.inr fun cs hb=>(b5.off hb aD) rfl⟩
 have yp:=ae<|HRD.au (aP a.m (.slice A a.d.length q))
 (try simp only[Exit.inBlock,Exit.then])
 refine bodyPost_ret (results_cell_row rfl _ _ rb _ (aP a.m (.slice A a.d.length q)) (0,0) _ rfl yp Tryz.underlying37 rfl bZ) rfl ?_;rw[HM.out];exact⟨A,q,rfl,jL.aA j9 Vf,aX.aC j9 fun j hj=>.inr (by rw[show j=rb from hj];exact tu)⟩):P:=h
theorem qI{P:Prop}(h:P:=by
 have s9:=H1.pw;have x0:aw W1 ab 0 a.kind:=eV.af rfl;have x1:aw W1 ab 1 a.slot:=eV.af rfl;have HM:=ae hm;clear hm;go_upto_region 1 with fail;have d0:aw W1.drew ab 0 a.kind:=x0;have d1:aw W1.drew ab 1 a.slot:=x1;have d2:aE W1.drew r.x 19 (aU r.a8 (cN c) (cN c)):=s9;go_upto_region 1 with fail;refine dU (fun w':World=>aw w' ab 0 a.kind∧aw w' ab 1 a.slot∧aE w' r.x 19 (aU r.a8 (cN c) (cN c))) 17 fun aH=>?_
 refine yd [0,1,2,3,4,5,6,7,8,9,10,11,12,13,14,15,16] ?_;exact qg):P:=h
theorem qt{P:Prop}(h:P:=by
 rw[HM.out];exact⟨_,_,rfl,MD.aA j9 Vf,ix.aC j9 fun j hj=>.inr (by rw[show j=rb from hj];exact tu)⟩):P:=h
theorem zr (h:bA Z o r M Dr w){a:iO}{dv:Value}(hd:cX Z w dv a.d):
 Calls Tryz.prog 15 #[aO r.x,.agg (bV a dv)] w (acb Z (nH (cN c) M.S a) w):=by
 obtain⟨A,q,rfl⟩:=hd.shape;have zC:ag az w (w.alloc (.cells (bV a (.slice A a.d.length q)) 39)):=(ag.aj az w).alloc _;have nG:=ae<|Box.fresh w 39 (bV a (.slice A a.d.length q));have H0:=ae<|h.keep zC;have HD0:=ae<|hd.keep zC;have kZ:=ae h.zb;have yq:=ae zC;clear h hd zC
 go_enter Tryz.func15,Tryz.ntmps15
 go_upto_region 1 with fail;change Code.wp _ _ _ _ ((w.alloc (.cells (bV a (.slice A a.d.length q)) 39)).alloc (.cells lE 37));have HSW:=aB ((w.alloc (.cells (bV a (.slice A a.d.length q)) 39)).heap.size=w.heap.size+1) (by rw[World.size_alloc]);generalize w.alloc (.cells (bV a (.slice A a.d.length q)) 39)=W0 at *;obtain⟨ab,ic⟩:∃ab,ab=w.heap.size:=⟨_,rfl⟩;have agZ:=aB (w.heap.size≤ab) (Nat.le_of_eq ic.symm);rw[←ic]at nG HSW ⊢;clear ic;have ZS:ag az W0 (W0.alloc (.cells lE 37)):=(ag.aj az W0).alloc _;have b5:=ae<|Box.fresh W0 37 lE;have eV:=ae<|ZS.aq nG id;have H1:=ae<|H0.keep ZS;have jL:=ae<|HD0.keep ZS;have aX:=ae<|yq.trans ZS;have tu:=aB (w.heap.size≤W0.heap.size) (yq.size);clear ZS nG H0 HD0 yq;generalize W0.alloc (.cells lE 37)=W1 at *;have hsw:=HSW.out;rw[hsw]at b5 tu;clear hsw HSW;obtain⟨rb,jO⟩:∃rb,rb=ab+1:=⟨_,rfl⟩;rw[←jO]at b5 tu ⊢;clear jO;have mX:cN c≤4:=H1.nn.2.1
 by_cases h4:a.kind≠4
 ·have NL:(a.kind != 4)=true:=by simpa using h4
  have hm:nH (cN c) M.S a=⟨a.m,a.d⟩:=by unfold nH;rw[if_pos (.inl h4)]
  exact qI
 have h4:a.kind=4:=ao;have NL:(a.kind != 4)=false:=by simpa using h4
 by_cases h0:a.slot<0
 ·have hm:nH (cN c) M.S a=⟨a.m,a.d⟩:=by unfold nH;rw[if_pos (.inr (.inl h0))]
  exact qI
 by_cases hs:(cN c:Int)≤a.slot
 ·have hm:nH (cN c) M.S a=⟨a.m,a.d⟩:=by unfold nH;rw[if_pos (.inr (.inr hs))]
  have s9:=H1.pw;have x0:aw W1 ab 0 a.kind:=eV.af rfl;have x1:aw W1 ab 1 a.slot:=eV.af rfl;have HM:=ae hm;clear hm;go_upto_region 1 with fail;have d0:aw W1.drew ab 0 a.kind:=x0;have d1:aw W1.drew ab 1 a.slot:=x1;have d2:aE W1.drew r.x 19 (aU r.a8 (cN c) (cN c)):=s9;go_upto_region 1 with fail;refine dU (fun w':World=>aw w' ab 0 a.kind∧aw w' ab 1 a.slot∧aE w' r.x 19 (aU r.a8 (cN c) (cN c))) 17 fun aH=>?_
  refine bX [0,1,2,3,4,5,6,7,8,9,10,11,12,13,14,15,16] ?_;exact qg
 obtain⟨k,hk⟩:∃k:Nat,a.slot=k:=⟨a.slot.toNat,ao⟩;have oJ:k<cN c:=ao;have pr:(k:Int)<cN c:=ao;have EO:(0:Int)≤(k:Int):=Int.natCast_nonneg k;have hm:nH (cN c) M.S a=⟨⟨fun i=>[if(M.S k).wr=true then(6:Int)else 5,0,(k:Int),0,(M.S k).op,(M.S k).blk,(M.S k).lev,0,a.m.f 8].getD i 0,a.m.g⟩,if(M.S k).wr=true then[]else a.d⟩:=by
  unfold nH;rw[if_neg ao,hk,Int.toNat_natCast]
 have HM:=ae hm;have wL:=ae hk;obtain⟨Ad,nd,md,eD⟩:=H1.DD k oJ;obtain⟨z0,z1,z2,z3,z4⟩:=bJ H1.slots oJ eD;have s9:=H1.pw;have x0:aw W1 ab 0 a.kind:=eV.af rfl;have x1:aw W1 ab 1 k:=by rw[←hk];exact eV.af rfl
 clear hm hk hs h0 eD;go_upto_region 1 with fail;have d0:aw W1.drew ab 0 a.kind:=x0;have d1:aw W1.drew ab 1 k:=x1;have d2:aE W1.drew r.x 19 (aU r.a8 (cN c) (cN c)):=s9;go_upto_region 1 with fail;refine dU (fun w':World=>aw w' ab 0 a.kind∧aw w' ab 1 k∧aE w' r.x 19 (aU r.a8 (cN c) (cN c))) 17 fun aH=>?_
 refine bX [0,1,2,3,4,5,6,7,8,9,10,11,12,13,14,15,16] ?_;refine cG ?_;clear aH d0 d1 d2
 cases hw:(M.S k).wr with
 |false=>
  rw[hw]at z3 HM;go_upto_region 3 with fail;have d0:aE W1.drew.drew r.x 19 (aU r.a8 (cN c) (cN c)):=s9;have d1:aw W1.drew.drew ab 1 k:=x1;have d2:aw W1.drew.drew r.a8 (k*5) ((M.S k).op):=z0;have d3:aw W1.drew.drew r.a8 (k*5+1) ((M.S k).blk):=z1;have d4:aw W1.drew.drew r.a8 (k*5+2) ((M.S k).lev):=z2;have d5:aE W1.drew.drew r.a8 (k*5+3) (.bool false):=z3;have d6:aE W1.drew.drew r.a8 (k*5+4) (.slice Ad nd md):=z4;go_upto_region 3 with fail;refine dU (fun w':World=>aE w' r.x 19 (aU r.a8 (cN c) (cN c))∧aw w' ab 1 k∧aw w' r.a8 (k*5) ((M.S k).op)∧aw w' r.a8 (k*5+1) ((M.S k).blk)∧aw w' r.a8 (k*5+2) ((M.S k).lev)∧aE w' r.a8 (k*5+3) (.bool false)∧aE w' r.a8 (k*5+4) (.slice Ad nd md)) 9 fun aH=>?_
  refine bX [0,1,2,3,4,5,6,7] ?_;refine cM 8 fun Kc hK=>?_
  go_simp;have dq:ag az W1 (W1.drew.drew.alloc (.cells jY 54)):=(((ag.aj az W1).drew).drew).alloc _;have jX:=aB (Box (W1.drew.drew.alloc (.cells jY 54)) W1.heap.size 54 jY) (Box.fresh W1.drew.drew 54 jY);have yB:=ae<|dq.aq eV id;have iz:=ae<|dq.aq b5 id;have vg:=ae<|jL.keep dq;have bM:=ae<|aX.trans dq;have lF:=aB (w.heap.size≤W1.heap.size∧ab≠W1.heap.size∧rb≠W1.heap.size) (⟨aX.size,fun e=>by have:=eV.lt;omega,fun e=>by have:=b5.lt;omega⟩);have e0:=dq.cell s9 id;have e1:=dq.cell x1 id;have e2:=dq.cell z0 id;have e3:=dq.cell z1 id;have e4:=dq.cell z2 id;have e5:=dq.cell z3 id;have e6:=dq.cell z4 id;change Kc _ (W1.drew.drew.alloc (.cells jY 54));clear dq
  try rw[show W1.drew.drew.heap.size=W1.heap.size from rfl]
  generalize W1.drew.drew.alloc (.cells jY 54)=W5 at *;generalize W1.heap.size=tb at *;refine eh hK fun aH=>?_
  clear hK;refine cG ?_;clear aH d0 d1 d2 d3 d4 d5 d6 e0 e1 e2 e3 e4 e5 e6 x0 x1 s9 z0 z1 z2 z3 z4;go_upto_region 4 with(refine fJ #[ah (M.S k).op,ah (M.S k).blk,ah (M.S k).lev,.bool false,.slice Ad nd md] jX a6 ?_);have j6:ag (ar tb) W5 (W5.setRow tb #[ah (M.S k).op,ah (M.S k).blk,ah (M.S k).lev,.bool false,.slice Ad nd md]):=(ag.aj (ar tb) W5).au (.inl rfl) _;have iL:Wr Z (ar tb) W5:=fun j hj e=>by rw[show j=tb from e];exact⟨Nat.le_trans kZ lF.1,.inr fun cs hb=>(jX.off hb aD) rfl⟩
  have tq:=ae<|jX.au #[ah (M.S k).op,ah (M.S k).blk,ah (M.S k).lev,.bool false,.slice Ad nd md];have gY:=ae<|j6.aq yB fun e=>lF.2.1 (show ab=tb from e);have tz:=ae<|j6.aq iz fun e=>lF.2.2 (show rb=tb from e);have oo:=ae<|vg.aA j6 iL;have cZ:=ae<|bM.aC j6 fun j hj=>.inr eK;clear j6 iL jX yB iz vg bM H1 b5 eV jL aX;generalize W5.setRow tb #[ah (M.S k).op,ah (M.S k).blk,ah (M.S k).lev,.bool false,.slice Ad nd md]=W6 at *;have t0:aw W6 tb 0 ((M.S k).op):=tq.af rfl;have t1:aw W6 tb 1 ((M.S k).blk):=tq.af rfl;have t2:aw W6 tb 2 ((M.S k).lev):=tq.af rfl;have u1:aw W6 ab 1 k:=by rw[←wL.out];exact gY.af rfl
  have u8:aw W6 ab 11 (a.m.f 8):=gY.af rfl;have u9:aE W6 ab 12 (.bool a.m.g):=gY.af rfl;have u10:aE W6 ab 13 (.slice A a.d.length q):=gY.af rfl;go_upto_region 5 with fail;change Code.wp _ _ _ _ (W6.alloc (.cells (aP ⟨fun i=>[(5:Int),0,(k:Int),0,(M.S k).op,(M.S k).blk,(M.S k).lev,0,a.m.f 8].getD i 0,a.m.g⟩ (.slice A a.d.length q)) 37));have ug:ag az W6 (W6.alloc (.cells (aP ⟨fun i=>[(5:Int),0,(k:Int),0,(M.S k).op,(M.S k).blk,(M.S k).lev,0,a.m.f 8].getD i 0,a.m.g⟩ (.slice A a.d.length q)) 37)):=(ag.aj az W6).alloc _;have NV:=ae<|Box.fresh W6 37 (aP ⟨fun i=>[(5:Int),0,(k:Int),0,(M.S k).op,(M.S k).blk,(M.S k).lev,0,a.m.f 8].getD i 0,a.m.g⟩ (.slice A a.d.length q));have oD:=ae<|ug.aq tq id;have zE:=ae<|ug.aq tz id;have vJ:=ae<|oo.keep ug;have fC:=ae<|cZ.trans ug;have HMN:=aB (w.heap.size≤W6.heap.size∧rb≠W6.heap.size) (⟨cZ.size,fun e=>by have:=tz.lt;omega⟩);clear ug t0 t1 t2 u1 u8 u9 u10 tq tz oo cZ gY;generalize W6.alloc (.cells (aP ⟨fun i=>[(5:Int),0,(k:Int),0,(M.S k).op,(M.S k).blk,(M.S k).lev,0,a.m.f 8].getD i 0,a.m.g⟩ (.slice A a.d.length q)) 37)=W7 at *;generalize W6.heap.size=qb at *;have t3:aE W7 tb 3 (.bool false):=oD.af rfl;have HM8:=NV;have Bf:=zE;have ix:=fC;have MD:=vJ;go_wp2_with (first|(refine fH (aP ⟨fun i=>[(5:Int),0,(k:Int),0,(M.S k).op,(M.S k).blk,(M.S k).lev,0,a.m.f 8].getD i 0,a.m.g⟩ (.slice A a.d.length q)) HM8 Tryz.underlying37 ?_)|(refine fJ (aP ⟨fun i=>[(5:Int),0,(k:Int),0,(M.S k).op,(M.S k).blk,(M.S k).lev,0,a.m.f 8].getD i 0,a.m.g⟩ (.slice A a.d.length q)) Bf (lz _ _ _ _) ?_));have j9:ag (ar rb) W7 (W7.setRow rb (aP ⟨fun i=>[(5:Int),0,(k:Int),0,(M.S k).op,(M.S k).blk,(M.S k).lev,0,a.m.f 8].getD i 0,a.m.g⟩ (.slice A a.d.length q))):=(ag.aj (ar rb) W7).au (.inl rfl) _;have Vf:Wr Z (ar rb) W7:=fun j hj e=>by rw[show j=rb from e];exact⟨Nat.le_trans kZ tu,.inr fun cs hb=>(Bf.off hb aD) rfl⟩
  have yp:=ae<|Bf.au (aP ⟨fun i=>[(5:Int),0,(k:Int),0,(M.S k).op,(M.S k).blk,(M.S k).lev,0,a.m.f 8].getD i 0,a.m.g⟩ (.slice A a.d.length q))
  (try simp only[Exit.inBlock,Exit.then])
  refine bodyPost_ret (results_cell_row rfl _ _ rb _ (aP ⟨fun i=>[(5:Int),0,(k:Int),0,(M.S k).op,(M.S k).blk,(M.S k).lev,0,a.m.f 8].getD i 0,a.m.g⟩ (.slice A a.d.length q)) (0,0) _ rfl yp Tryz.underlying37 rfl bZ) rfl ?_;exact qt
 |true=>
  rw[hw]at z3 HM;go_upto_region 3 with fail;have d0:aE W1.drew.drew r.x 19 (aU r.a8 (cN c) (cN c)):=s9;have d1:aw W1.drew.drew ab 1 k:=x1;have d2:aw W1.drew.drew r.a8 (k*5) ((M.S k).op):=z0;have d3:aw W1.drew.drew r.a8 (k*5+1) ((M.S k).blk):=z1;have d4:aw W1.drew.drew r.a8 (k*5+2) ((M.S k).lev):=z2;have d5:aE W1.drew.drew r.a8 (k*5+3) (.bool true):=z3;have d6:aE W1.drew.drew r.a8 (k*5+4) (.slice Ad nd md):=z4;go_upto_region 3 with fail;refine dU (fun w':World=>aE w' r.x 19 (aU r.a8 (cN c) (cN c))∧aw w' ab 1 k∧aw w' r.a8 (k*5) ((M.S k).op)∧aw w' r.a8 (k*5+1) ((M.S k).blk)∧aw w' r.a8 (k*5+2) ((M.S k).lev)∧aE w' r.a8 (k*5+3) (.bool true)∧aE w' r.a8 (k*5+4) (.slice Ad nd md)) 9 fun aH=>?_
  refine bX [0,1,2,3,4,5,6,7] ?_;refine cM 8 fun Kc hK=>?_
  go_simp;have dq:ag az W1 (W1.drew.drew.alloc (.cells jY 54)):=(((ag.aj az W1).drew).drew).alloc _;have jX:=aB (Box (W1.drew.drew.alloc (.cells jY 54)) W1.heap.size 54 jY) (Box.fresh W1.drew.drew 54 jY);have yB:=ae<|dq.aq eV id;have iz:=ae<|dq.aq b5 id;have vg:=ae<|jL.keep dq;have bM:=ae<|aX.trans dq;have lF:=aB (w.heap.size≤W1.heap.size∧ab≠W1.heap.size∧rb≠W1.heap.size) (⟨aX.size,fun e=>by have:=eV.lt;omega,fun e=>by have:=b5.lt;omega⟩);have e0:=dq.cell s9 id;have e1:=dq.cell x1 id;have e2:=dq.cell z0 id;have e3:=dq.cell z1 id;have e4:=dq.cell z2 id;have e5:=dq.cell z3 id;have e6:=dq.cell z4 id;change Kc _ (W1.drew.drew.alloc (.cells jY 54));clear dq
  try rw[show W1.drew.drew.heap.size=W1.heap.size from rfl]
  generalize W1.drew.drew.alloc (.cells jY 54)=W5 at *;generalize W1.heap.size=tb at *;refine eh hK fun aH=>?_
  clear hK;refine cG ?_;clear aH d0 d1 d2 d3 d4 d5 d6 e0 e1 e2 e3 e4 e5 e6 x0 x1 s9 z0 z1 z2 z3 z4;go_upto_region 4 with(refine fJ #[ah (M.S k).op,ah (M.S k).blk,ah (M.S k).lev,.bool true,.slice Ad nd md] jX a6 ?_);have j6:ag (ar tb) W5 (W5.setRow tb #[ah (M.S k).op,ah (M.S k).blk,ah (M.S k).lev,.bool true,.slice Ad nd md]):=(ag.aj (ar tb) W5).au (.inl rfl) _;have iL:Wr Z (ar tb) W5:=fun j hj e=>by rw[show j=tb from e];exact⟨Nat.le_trans kZ lF.1,.inr fun cs hb=>(jX.off hb aD) rfl⟩
  have tq:=ae<|jX.au #[ah (M.S k).op,ah (M.S k).blk,ah (M.S k).lev,.bool true,.slice Ad nd md];have gY:=ae<|j6.aq yB fun e=>lF.2.1 (show ab=tb from e);have tz:=ae<|j6.aq iz fun e=>lF.2.2 (show rb=tb from e);have oo:=ae<|vg.aA j6 iL;have cZ:=ae<|bM.aC j6 fun j hj=>.inr eK;clear j6 iL jX yB iz vg bM H1 b5 eV jL aX;generalize W5.setRow tb #[ah (M.S k).op,ah (M.S k).blk,ah (M.S k).lev,.bool true,.slice Ad nd md]=W6 at *;have t0:aw W6 tb 0 ((M.S k).op):=tq.af rfl;have t1:aw W6 tb 1 ((M.S k).blk):=tq.af rfl;have t2:aw W6 tb 2 ((M.S k).lev):=tq.af rfl;have u1:aw W6 ab 1 k:=by rw[←wL.out];exact gY.af rfl
  have u8:aw W6 ab 11 (a.m.f 8):=gY.af rfl;have u9:aE W6 ab 12 (.bool a.m.g):=gY.af rfl;have u10:aE W6 ab 13 (.slice A a.d.length q):=gY.af rfl;go_upto_region 5 with fail;change Code.wp _ _ _ _ (W6.alloc (.cells (aP ⟨fun i=>[(5:Int),0,(k:Int),0,(M.S k).op,(M.S k).blk,(M.S k).lev,0,a.m.f 8].getD i 0,a.m.g⟩ (.slice A a.d.length q)) 37));have ug:ag az W6 (W6.alloc (.cells (aP ⟨fun i=>[(5:Int),0,(k:Int),0,(M.S k).op,(M.S k).blk,(M.S k).lev,0,a.m.f 8].getD i 0,a.m.g⟩ (.slice A a.d.length q)) 37)):=(ag.aj az W6).alloc _;have NV:=ae<|Box.fresh W6 37 (aP ⟨fun i=>[(5:Int),0,(k:Int),0,(M.S k).op,(M.S k).blk,(M.S k).lev,0,a.m.f 8].getD i 0,a.m.g⟩ (.slice A a.d.length q));have oD:=ae<|ug.aq tq id;have zE:=ae<|ug.aq tz id;have vJ:=ae<|oo.keep ug;have fC:=ae<|cZ.trans ug;have HMN:=aB (w.heap.size≤W6.heap.size∧rb≠W6.heap.size) (⟨cZ.size,fun e=>by have:=tz.lt;omega⟩);clear ug t0 t1 t2 u1 u8 u9 u10 tq tz oo cZ gY;generalize W6.alloc (.cells (aP ⟨fun i=>[(5:Int),0,(k:Int),0,(M.S k).op,(M.S k).blk,(M.S k).lev,0,a.m.f 8].getD i 0,a.m.g⟩ (.slice A a.d.length q)) 37)=W7 at *;generalize W6.heap.size=qb at *;have t3:aE W7 tb 3 (.bool true):=oD.af rfl;have v0:aw W7 qb 0 5:=NV.af rfl;have v10:∀x,aE (W7.setCell ⟨qb,0,none⟩ x) qb 10 (.slice A a.d.length q):=fun x=>(NV.store 0 x).af rfl
  have f0:W7.frozen? ⟨qb,0,none⟩=false:=NV.free 0;have f10:∀x,(W7.setCell ⟨qb,0,none⟩ x).frozen? ⟨qb,10,none⟩=false:=fun x=>(NV.store 0 x).free 10
  go_upto_region 7 with fail;change Code.wp _ _ _ _ ((W7.setCell ⟨qb,0,none⟩ (ah 6)).setCell ⟨qb,10,none⟩ aJ);have j8:ag (ar qb) W7 ((W7.setCell ⟨qb,0,none⟩ (ah 6)).setCell ⟨qb,10,none⟩ aJ):=((ag.aj (ar qb) W7).setCell (p:=⟨qb,0,none⟩) (.inl (show ar qb qb from rfl)) _).setCell (p:=⟨qb,10,none⟩) (.inl (show ar qb qb from rfl)) _;have HM8:=aB (Box ((W7.setCell ⟨qb,0,none⟩ (ah 6)).setCell ⟨qb,10,none⟩ aJ) qb 37 (aP ⟨fun i=>[(6:Int),0,(k:Int),0,(M.S k).op,(M.S k).blk,(M.S k).lev,0,a.m.f 8].getD i 0,a.m.g⟩ aJ)) ((NV.store 0 (ah 6)).store 10 aJ);have Bf:=ae<|j8.aq zE fun e=>HMN.2 (show rb=qb from e);have ix:=ae<|fC.aC j8 fun j hj=>.inr (by rw[show j=qb from hj];exact HMN.1);clear j8 v0 v10 f0 f10 t3;generalize(W7.setCell ⟨qb,0,none⟩ (ah 6)).setCell ⟨qb,10,none⟩ aJ=W8 at *;have MD:=ae<|cX.nil Z W8;go_wp2_with (first|(refine fH (aP ⟨fun i=>[(6:Int),0,(k:Int),0,(M.S k).op,(M.S k).blk,(M.S k).lev,0,a.m.f 8].getD i 0,a.m.g⟩ aJ) HM8 Tryz.underlying37 ?_)|(refine fJ (aP ⟨fun i=>[(6:Int),0,(k:Int),0,(M.S k).op,(M.S k).blk,(M.S k).lev,0,a.m.f 8].getD i 0,a.m.g⟩ aJ) Bf (lz _ _ _ _) ?_));have j9:ag (ar rb) W8 (W8.setRow rb (aP ⟨fun i=>[(6:Int),0,(k:Int),0,(M.S k).op,(M.S k).blk,(M.S k).lev,0,a.m.f 8].getD i 0,a.m.g⟩ aJ)):=(ag.aj (ar rb) W8).au (.inl rfl) _;have Vf:Wr Z (ar rb) W8:=fun j hj e=>by rw[show j=rb from e];exact⟨Nat.le_trans kZ tu,.inr fun cs hb=>(Bf.off hb aD) rfl⟩
  have yp:=ae<|Bf.au (aP ⟨fun i=>[(6:Int),0,(k:Int),0,(M.S k).op,(M.S k).blk,(M.S k).lev,0,a.m.f 8].getD i 0,a.m.g⟩ aJ)
  (try simp only[Exit.inBlock,Exit.then])
  refine bodyPost_ret (results_cell_row rfl _ _ rb _ (aP ⟨fun i=>[(6:Int),0,(k:Int),0,(M.S k).op,(M.S k).blk,(M.S k).lev,0,a.m.f 8].getD i 0,a.m.g⟩ aJ) (0,0) _ rfl yp Tryz.underlying37 rfl bZ) rfl ?_;exact qt
end
theorem FR (m:di)(l:List Int):nW m m l l=true:=by simp[nW]
def Zb (n:Nat)(w:World)(iv:Value)(wr:World):Prop:=∃k:Nat,k≤n∧iv=ah k∧ag az w wr
section
variable {Z:ZN}{w:World}
theorem rA{P:Prop}(h:P:=by
 go_wp2
 go_roundw
 case rel=>exact⟨k+1,bL,by go_num,HO.trans YB⟩
 case measure=>simp[intOf];have:=bL.out;omega):P:=h
theorem yX {b1 b2:Nat}{v1 v2:Value}{L:List PM}(h1:bg Z w b1 v1 L)(h2:bg Z w b2 v2 L):
 Calls Tryz.prog 55 #[v1,v2] w fun e w'=>e= .returned (.bool true)∧ag az w w':=by
 obtain⟨A1,c1,rfl,vB,AA⟩:=h1.shape;obtain⟨A2,c2,rfl,kX,pY⟩:=h2.shape;have Yf:L.length≤9223372036854775807:=by unfold maxLen at AA;omega
 have H1:=ae h1;have H2:=ae h2;have fh:=ae Yf;clear h1 h2 vB AA kX pY Yf
 go_enter Tryz.func55,Tryz.ntmps55
 go_upto_region 4 with fail
 go_loopw [5] (fun iv wr=>Zb L.length w iv wr) (fun iv _=>L.length - (intOf iv).toNat)
 case atStart=>exact⟨0,dT _,rfl,ag.aj _ _⟩
 case round=>
  obtain⟨k,hk,rfl,ho⟩:=hrel;have HO:=ae ho;clear ho
  by_cases aY:k<L.length
  ·obtain⟨g1,cp1,B1,m1,e1,y1,d1⟩:=(H1.keep HO).at_ aY;obtain⟨g2,kJ,B2,m2,e2,y2,d2⟩:=(H2.keep HO).at_ aY;injection e1 with e1 _ _;injection e2 with e2 _ _;subst e1 e2;have iV:(k:Int)<L.length:=ao;have EO:(0:Int)≤(k:Int):=Int.natCast_nonneg k;have bL:=ae aY;have Yf:=fh.out;generalize L.getD k Gj=x at *;have HS:=ae fun(W:World) (ho:ag az wr W)=>Pb x.m x.m B1 B2 x.d.length m1 x.d.length m2 x.d x.d W (d1.1.keep ho fun _ _ _ _=>id) (d2.1.keep ho fun _ _ _ _=>id)
   rw[FR]at HS;have Y1:=aB (∀j v,(aP x.m (.slice B1 x.d.length m1)).toList[j]? =some v→aE wr g1 (k*11+j) v) (fun j v hj=>y1 j v (by rw[←Array.getElem?_toList];exact hj));have Y2:=aB (∀j v,(aP x.m (.slice B2 x.d.length m2)).toList[j]? =some v→aE wr g2 (k*11+j) v) (fun j v hj=>y2 j v (by rw[←Array.getElem?_toList];exact hj));clear y1 y2 d1 d2 aY hk;go_upto_region 6 with fail;have k1:=fun j v hj=>((ag.aj az wr).drew).cell (Y1.out j v hj) id
   have k2:=fun j v hj=>((ag.aj az wr).drew).cell (Y2.out j v hj) id
   go_upto_region 6 with fail;refine oa (fun w':World=>(∀j v,(aP x.m (.slice B1 x.d.length m1)).toList[j]? =some v→aE w' g1 (k*11+j) v)∧(∀j v,(aP x.m (.slice B2 x.d.length m2)).toList[j]? =some v→aE w' g2 (k*11+j) v)) 9 ?_ ?_
   ·exact⟨k1,k2⟩
   intro aH;refine bX [0,1,2] ?_;refine cj (i:=3) (v:=.agg (aP x.m (.slice B1 x.d.length m1))) bZ rfl bZ (fun _ _ _ h=>h) (yieldsIf_load_mid (by rfl) 37 _ rfl g1 (k*11) rfl (aP x.m (.slice B1 x.d.length m1)).toList _ (fun w hw j v hj=>hw.1 j v hj) Tryz.underlying37 rfl bZ) (by assumption) ?_;refine CW ?_;refine bX [4,5,6] ?_;refine cj (i:=7) (v:=.agg (aP x.m (.slice B2 x.d.length m2))) bZ rfl bZ (fun _ _ _ h=>h) (yieldsIf_load_mid (by rfl) 37 _ rfl g2 (k*11) rfl (aP x.m (.slice B2 x.d.length m2)).toList _ (fun w hw j v hj=>hw.2 j v hj) Tryz.underlying37 rfl bZ) (by assumption) ?_;refine CW ?_;refine cM 8 fun K hK=>?_
   go_simp;refine(HS wr.drew ((ag.aj az wr).drew)).mono ?_;rintro e W5 ⟨rfl,cA⟩;have YB:=ae<|((ag.aj az wr).drew).trans cA;have k1:=fun j v hj=>cA.cell (k1 j v hj) id
   have k2:=fun j v hj=>cA.cell (k2 j v hj) id
   clear cA;refine jS hK ?_ fun aH=>?_
   ·exact⟨k1,k2⟩
   clear hK;refine cG ?_;clear aH k1 k2;exact rA
  ·obtain rfl:k=L.length:=ao;clear aY hk;go_wp2;go_ret;exact⟨rfl,HO⟩
theorem Tk {b1 b2:Nat}{v1 v2:Value}{L:List nP}(h1:dy Z w b1 v1 L)(h2:dy Z w b2 v2 L):
 Calls Tryz.prog 26 #[v1,v2] w fun e w'=>e= .returned (.bool true)∧ag az w w':=by
 obtain⟨A1,c1,rfl,vB,AA⟩:=h1.shape;obtain⟨A2,c2,rfl,kX,pY⟩:=h2.shape;have Yf:L.length≤9223372036854775807:=by unfold maxLen at AA;omega
 have H1:=ae h1;have H2:=ae h2;have fh:=ae Yf;clear h1 h2 vB AA kX pY Yf
 go_enter Tryz.func26,Tryz.ntmps26
 go_upto_region 4 with fail
 go_loopw [5] (fun iv wr=>Zb L.length w iv wr) (fun iv _=>L.length - (intOf iv).toNat)
 case atStart=>exact⟨0,dT _,rfl,ag.aj _ _⟩
 case round=>
  obtain⟨k,hk,rfl,ho⟩:=hrel;have HO:=ae ho;clear ho
  by_cases aY:k<L.length
  ·obtain⟨g1,cp1,B1,m1,e1,y1,d1⟩:=(H1.keep HO).at_ aY;obtain⟨g2,kJ,B2,m2,e2,y2,d2⟩:=(H2.keep HO).at_ aY;injection e1 with e1 _ _;injection e2 with e2 _ _;subst e1 e2;have iV:(k:Int)<L.length:=ao;have EO:(0:Int)≤(k:Int):=Int.natCast_nonneg k;have bL:=ae aY;have Yf:=fh.out;generalize L.getD k E5=x at *;have HS:=ae fun(W:World) (ho:ag az wr W)=>xE (.slice B1 x.ed.length m1) (.slice B2 x.ed.length m2) x.ed x.ed W (d1.1.keep ho fun _ _ _ _=>id) (d2.1.keep ho fun _ _ _ _=>id)
   rw[decide_eq_true (rfl:x.ed=x.ed)]at HS;have aeO:aw wr g1 (k*5) x.slot:=y1 0 _ rfl;have aeN:aw wr g1 (k*5+1) x.op:=y1 1 _ rfl;have aeM:aE wr g1 (k*5+2) (.bool x.wr):=y1 2 _ rfl;have aeL:aw wr g1 (k*5+3) x.code:=y1 3 _ rfl;have aeK:aE wr g1 (k*5+4) (.slice B1 x.ed.length m1):=y1 4 _ rfl;have aeJ:aw wr g2 (k*5) x.slot:=y2 0 _ rfl;have aeI:aw wr g2 (k*5+1) x.op:=y2 1 _ rfl;have aeH:aE wr g2 (k*5+2) (.bool x.wr):=y2 2 _ rfl;have aeG:aw wr g2 (k*5+3) x.code:=y2 3 _ rfl;have aeF:aE wr g2 (k*5+4) (.slice B2 x.ed.length m2):=y2 4 _ rfl;clear y1 y2 d1 d2 aY hk;go_upto_region 6 with fail;have q10:aw wr.drew g1 (k*5) x.slot:=aeO;have q11:aw wr.drew g1 (k*5+1) x.op:=aeN;have q12:aE wr.drew g1 (k*5+2) (.bool x.wr):=aeM;have q13:aw wr.drew g1 (k*5+3) x.code:=aeL;have q14:aE wr.drew g1 (k*5+4) (.slice B1 x.ed.length m1):=aeK;have q20:aw wr.drew g2 (k*5) x.slot:=aeJ;have q21:aw wr.drew g2 (k*5+1) x.op:=aeI;have q22:aE wr.drew g2 (k*5+2) (.bool x.wr):=aeH;have q23:aw wr.drew g2 (k*5+3) x.code:=aeG;have q24:aE wr.drew g2 (k*5+4) (.slice B2 x.ed.length m2):=aeF;go_upto_region 6 with fail;refine dU (fun w':World=>aw w' g1 (k*5) x.slot∧aw w' g1 (k*5+1) x.op∧aE w' g1 (k*5+2) (.bool x.wr)∧aw w' g1 (k*5+3) x.code∧aE w' g1 (k*5+4) (.slice B1 x.ed.length m1)∧aw w' g2 (k*5) x.slot∧aw w' g2 (k*5+1) x.op∧aE w' g2 (k*5+2) (.bool x.wr)∧aw w' g2 (k*5+3) x.code∧aE w' g2 (k*5+4) (.slice B2 x.ed.length m2)) 63 fun aH=>?_
   refine bX [0,1,2,3,4,5,6,7,8,9,10,11,12,13,14,15,16,17,18,19,20,21,22,23,24,25,26,27,28,29,30,31,32,33,34,35,36,37,38,39,40,41,42,43,44,45,46,47,48,49,50,51,52,53,54,55,56,57,58,59,60] ?_;refine cM 61 fun Kc hK=>?_
   go_simp;refine(HS wr.drew ((ag.aj az wr).drew)).mono ?_;rintro e W5 ⟨rfl,mm,rfl⟩;have cA:ag az wr.drew (wr.drew.drewN mm):=(ag.aj _ _).drewN _;have YB:=ae<|((ag.aj az wr).drew).trans cA;have q10:=cA.cell q10 id;have q11:=cA.cell q11 id;have q12:=cA.cell q12 id;have q13:=cA.cell q13 id;have q14:=cA.cell q14 id;have q20:=cA.cell q20 id;have q21:=cA.cell q21 id;have q22:=cA.cell q22 id;have q23:=cA.cell q23 id;have q24:=cA.cell q24 id;clear cA;change Kc _ (wr.drew.drewN mm);generalize wr.drew.drewN mm=W5 at *;refine eh hK fun aH=>?_
   clear hK;refine bX [62] ?_;refine cG ?_;clear aH q10 q11 q12 q13 q14 q20 q21 q22 q23 q24;exact rA
  ·obtain rfl:k=L.length:=ao;clear aY hk;go_wp2;go_ret;exact⟨rfl,HO⟩
end
theorem SU {c:aM}(hP:cK c)(hk:0<3){A:Option Addr}{n cp:Nat}(w:World)(bw:aW w A n cp c.h):nU (aQ c 0 hP hk) (aQ c 0 hP hk).s0:=by
 obtain⟨e,w',i,cb,mb,hv,rfl,hc,_⟩:=Calls.ex (Nt (kp hP hk) hP (dm 1) aD w bw);exact⟨i,w',hc.ord⟩
theorem Tj (c:aM)(hv:Value){j:Nat}{v:Value}(hj: [Value.int .i64 (c.f 9),ah (c.f 10),ah (c.f 11)][j]? =some v):(ak c hv)[9+j]? =some v:=by
 match j,hj with
 |0,h=>exact h
 |1,h=>exact h
 |2,h=>exact h
theorem K7:(Tryz.prog.info? 54).map (fun i=>(i.zero,i.size,i.bytes))=some (some (.agg #[ah 0,ah 0,ah 0,.bool false,aJ]),5,56):=by kernel_rfl
theorem K9 (m:Nat)(hm:m≤4)(w:World):(Instr.makeSlice 49 (ah m) (ah m)).run Tryz.prog w= .ok (aU w.heap.size m m) (w.alloc (.cells (mC m (fun _=>EE)) 54)):=by
 obtain⟨i,hi,J0⟩:=Option.map_eq_some_iff.1 K7;simp only[Prod.mk.injEq]at J0;obtain⟨hz,hs,hb⟩:=J0;have:=run_make (P:=Tryz.prog) w 49 54 i _ Tryz.underlying49 hi hz .i64 .i64 m m ao (Int.le_refl _) eO ao;rw[hs]at this;rw[this,←YR];rfl
theorem PU (c:aM)(A:Option Addr)(n cp:Nat)(cb tb:Nat):Tryz.prog.built 52 [(0,.agg (ak c (.slice A n cp))),(1,aO cb),(2,aO tb)]=some (br c (.slice A n cp) cb (aO tb) aJ 0 false aJ):=by kernel_rfl
theorem PN (c:aM)(hv:Value)(cb:Nat)(u sl sl':Value)(ops:Int)(up:Bool)(en:Value):(br c hv cb u sl ops up en).setIfInBounds 19 sl'=br c hv cb u sl' ops up en:=by
 unfold br ak;rfl
section
theorem lU{P:Prop}(h:P:=by
 first|exact⟨NT,(ag.aj az W2).drew⟩|exact⟨Bt.aq aH.1 id,aH.2.trans Bt⟩|exact⟨Od.aq aH.1 id,aH.2.trans Od⟩|exact aH|exact⟨aH.1.alloc _,aH.2.alloc _⟩):P:=h
theorem uo {c:aM}(hP:cK c)(hk:0<3){A:Option Addr}{n cp:Nat}(w:World)(bw:aW w A n cp c.h){B:Nat}(hB:B≤w.heap.size):
 Calls Tryz.prog 12 #[.agg (ak c (.slice A n cp))] w (DS (aQ c 0 hP hk) c B w):=by
 have HG:=ae<|SU hP hk w bw;have HP:=ae hP;have af1:=ae hB;obtain⟨q,hq⟩:=Int.eq_ofNat_of_zero_le (show 0≤c.f 1 by have:=hP.p1;omega);have hq4:q≤4:=by have:=hP.p1;omega
 have Gz:=ae<|K9 q hq4;have HQQ:=ae hq;have HCN:=ae (show cN c=q by unfold cN;rw[hq,Int.toNat_natCast]);have HB:=ae<|Box.fresh w 25 (ak c (.slice A n cp));have HO:=ae<|(ag.aj az w).alloc (.cells (ak c (.slice A n cp)) 25);have kx:=ae<|bw.keep HO;have hl:c.h.length≤100:=by have:=hP.hs.2.2;omega
 have HL:=ae hl;clear bw hl hq hq4 hB
 go_enter Tryz.func12,Tryz.ntmps12
 go_upto_region 1 with fail;change Code.wp _ _ _ _ (w.alloc (.cells (ak c (.slice A n cp)) 25));generalize w.alloc (.cells (ak c (.slice A n cp)) 25)=W0 at *;obtain⟨pb,NH⟩:∃pb,pb=w.heap.size:=⟨_,rfl⟩;rw[←NH]at HB ⊢;clear NH;have mI:=ae<|Ip W0 kx HL;go_upto_region 2 with(first|(refine fH (ak c (.slice A n cp)) HB Tryz.underlying25 ?_)|(go_at_call 34;refine mI.mono ?_;rintro e W1 ⟨A1,m1,rfl,h1,h2,h3⟩;have Vu:=ae h1;have HHB:=ae h2;have aX:=ae<|HO.trans h3;have Z8:=ae h3.size;clear h1 h2 h3)|(refine fJ (ak c (.slice A1 c.h.length m1)) (Box.fresh W1 25 (ak JZ aJ)) (mQ _ _ _ _) ?_));have bp:ag az W1 ((W1.alloc (.cells (ak JZ aJ) 25)).setRow W1.heap.size (ak c (.slice A1 c.h.length m1))):=((ag.aj az W1).alloc _).au (.inr (dm _)) _;have NT:=ae<|(Box.fresh W1 25 (ak JZ aJ)).au (ak c (.slice A1 c.h.length m1));have HH2:=ae<|Vu.keep bp;have bf:=ae<|aX.trans bp;have bL:=aB (∀j,0<c.h.length→aK (.slice A1 c.h.length m1) j→w.heap.size≤j∧j<W1.heap.size) (fun j h0 hj=>⟨Nat.le_trans HO.size (HHB j hj),Vu.lt h0 hj⟩);change Code.wp _ _ _ _ ((W1.alloc (.cells (ak JZ aJ) 25)).setRow W1.heap.size (ak c (.slice A1 c.h.length m1)));have adb:=aB (W1.heap.size≤((W1.alloc (.cells (ak JZ aJ) 25)).setRow W1.heap.size (ak c (.slice A1 c.h.length m1))).heap.size) (bp.size);clear bp Vu HHB aX Z8 mI HB HO kx;generalize(W1.alloc (.cells (ak JZ aJ) 25)).setRow W1.heap.size (ak c (.slice A1 c.h.length m1))=W2 at *;generalize W1.heap.size=ob at *;have py:=ae fun(W:World) (ho:ag az W2 W)=>WN hP hk W (HH2.keep ho)
 go_upto_region 2 with fail;refine oa (fun w':World=>Box w' ob 25 (ak c (.slice A1 c.h.length m1))∧ag az W2 w') 6 ?_ ?_
 ·exact lU
 intro aH;refine cj (i:=0) (v:=.agg (ak c (.slice A1 c.h.length m1))) bZ rfl bZ (fun _ _ _ h=>h) (yieldsIf_load_mid (by rfl) 25 _ rfl ob 0 rfl (ak c (.slice A1 c.h.length m1)).toList _ (fun w hw j v hj=>by rw[Nat.zero_add];exact hw.1.af (by rw[←Array.getElem?_toList];exact hj)) Tryz.underlying25 rfl bZ) (by assumption) ?_;refine cj (i:=1) (v:=.agg (ak c (.slice A1 c.h.length m1))) bZ rfl bZ (fun _ _ _ h=>h) (yieldsIf_load_mid (by rfl) 25 _ rfl ob 0 rfl (ak c (.slice A1 c.h.length m1)).toList _ (fun w hw j v hj=>by rw[Nat.zero_add];exact hw.1.af (by rw[←Array.getElem?_toList];exact hj)) Tryz.underlying25 rfl bZ) (by assumption) ?_;refine bX [3] ?_;refine cj (i:=4) (v:=.agg #[ah (c.f 9),ah (c.f 10),ah (c.f 11)]) bZ rfl bZ (fun _ _ _ h=>h) (yieldsIf_load_mid (by rfl) 22 _ rfl ob 9 rfl [ah (c.f 9),ah (c.f 10),ah (c.f 11)] _ (fun w hw j v hj=>hw.1.af (Tj c _ hj)) Tryz.underlying22 rfl bZ) (by assumption) ?_;refine CW ?_;refine cM 2 fun K hK=>?_
 go_simp;refine(py W2.drew ((ag.aj az W2).drew)).mono ?_;rintro e W3 ⟨o,i,rfl,hr,hf,ho⟩;have Oc:=ae hr;have aba:=ae hf;have Bt:=ae ho;clear hr hf ho;refine jS hK ?_ fun aH=>?_
 ·exact lU
 clear hK;refine cM 5 fun K hK=>?_
 go_simp;refine(WQ (c.f 9) (c.f 10) (c.f 11) W3).mono ?_;rintro e W4 ⟨tb,cv,rfl,htb,hb,hc,ho⟩;have VX:=ae htb;have adH:=ae hb;have abi:=ae hc;have Od:=ae ho;clear htb hb hc ho;have Aw:=ae (show ta o i (aQ c 0 hP hk).s0 (fun _=>[]) W4∧(∀j,ke o i j→w.heap.size≤j)∧w.heap.size≤tb∧Box W4 tb 140 (mJ aJ cv)∧aF 3 W4 W2.heap.size cv [0,c.f 9,c.f 10,c.f 11]∧(∀j,ke o i j→j≠tb∧¬aK cv j)from
  ⟨Oc.keep Od,fun j hj=>Nat.le_trans bf.size (aba j hj),Nat.le_trans bf.size (Nat.le_trans Bt.size VX),adH,abi.low (show W2.heap.size≤W3.heap.size from Bt.size),fun j hj=>⟨fun e=>by have:=Oc.kB hj;have:=Oc.bs;have:=VX.out;omega,fun e=>by have:=Oc.kB hj;have:=Oc.bs;have:=(abi.lt j e).1;omega⟩⟩)
 have aev:=aB (∀j,ke o i j→W2.heap.size≤j) (fun j hj=>aba j hj);have jX:=aB (W2.heap.size≤tb) (Nat.le_trans Bt.size VX);clear Oc aba VX adH abi;refine jS hK ?_ fun aH=>?_
 ·exact lU
 clear hK;refine cG ?_;have CT:=ae aH.1;have bK:=ae<|bf.trans aH.2;have MB:=ae<|HH2.keep aH.2;have RM:=aB (ob<W4.heap.size) (aH.1.lt);have RG:=aB (W2.heap.size≤W4.heap.size) (aH.2.size);have GF:=aB (∀j,ke o i j→W2.heap.size≤j) (fun j hj=>aev j hj);obtain⟨hr,hf,ht,hb,hc,hn⟩:=Aw.out;obtain⟨EG,scc,ecv,_,_⟩:=hc.some_ (by simp);subst ecv;have jc:=ae hr;have kg:=ae hf;have Qt:=ae ht;have iM:=ae hb;have wN:=ae hc;have HN4:=ae hn;clear hr hf ht hb hc hn Aw aH py NT;refine gU rfl _ _ rfl [(0,.agg (ak c (.slice A1 c.h.length m1))),(1,aO i.cb),(2,aO tb)] _ ?_ (PU c A1 c.h.length m1 i.cb tb) ?_
 ·simp[Act.eval]
 go_upto_region 3 with fail;have dq:ag az W4 (W4.alloc (.cells (br c (.slice A1 c.h.length m1) i.cb (aO tb) aJ 0 false aJ) 52)):=(ag.aj az W4).alloc _;have Yx:=ae<|Box.fresh W4 52 (br c (.slice A1 c.h.length m1) i.cb (aO tb) aJ 0 false aJ);have afS:=ae<|dq.aq CT id;have iz:=ae<|jc.keep dq;have iG:=ae<|dq.aq iM id;have E3:=ae<|wN.aA dq fun _ _=>id;have MA:=ae<|MB.keep dq;have bM:=ae<|bK.trans dq;have Gw:=aB ((∀j,ke o i j→j<W4.heap.size)∧tb<W4.heap.size∧EG<W4.heap.size) (⟨fun j hj=>Nat.lt_of_lt_of_le (jc.kB hj) jc.bs,iM.lt,(wN.lt EG (aG.2 rfl)).2⟩);change Code.wp _ _ _ _ (W4.alloc (.cells (br c (.slice A1 c.h.length m1) i.cb (aO tb) aJ 0 false aJ) 52));clear dq CT jc iM wN MB;generalize W4.alloc (.cells (br c (.slice A1 c.h.length m1) i.cb (aO tb) aJ 0 false aJ) 52)=W5 at *;generalize W4.heap.size=xb at *;have hx5:aw W5 ob 1 q:=(afS.af (aL c _ (i:=1) aD)).trans (by rw[HQQ.out]);have uW:=Gz.out;have jZ:∀w',ag az W5 w'→aE w' xb 19 aJ:=fun w' ho=>(ho.aq Yx id).af rfl
 have Mo:ag az W5 (W5.alloc (.cells (mC q fun _=>EE) 54)):=(ag.aj az W5).alloc _;have HS6:=ae<|Box.fresh W5 54 (mC q fun _=>EE);have HX6:=ae<|Mo.aq Yx id;have tz:=ae<|iz.keep Mo;have kI:=ae<|Mo.aq iG id;have HC6:=ae<|E3.aA Mo fun _ _=>id;have HH6:=ae<|MA.keep Mo;have cZ:=ae<|bM.trans Mo;have HXS:=aB (xb<W5.heap.size) (Yx.lt);have z19:aE (W5.alloc (.cells (mC q fun _=>EE) 54)) xb 19 aJ:=HX6.af rfl;have f19:(W5.alloc (.cells (mC q fun _=>EE) 54)).frozen? ⟨xb,19,none⟩=false:=HX6.free 19;clear jZ;go_wp2;go_ret;have eN:=HCN.out;have j7:ag (ar xb) (W5.alloc (.cells (mC q fun _=>EE) 54)) ((W5.alloc (.cells (mC q fun _=>EE) 54)).setCell ⟨xb,19,none⟩ (aU W5.heap.size q q)):=(ag.aj (ar xb) _).setCell (p:=⟨xb,19,none⟩) (.inl (show ar xb xb from rfl)) _;have hX7:=HX6.store 19 (aU W5.heap.size q q);rw[PN]at hX7;obtain⟨sS,QL,Gm⟩:=Gw.out;have e0:=HXS.out;have hw0:=bf.size;have hNR:∀k,ke o i k→k<xb:=sS;have Vd:ag az w ((W5.alloc (.cells (mC q fun _=>EE) 54)).setCell ⟨xb,19,none⟩ (aU W5.heap.size q q)):=cZ.aC j7 fun k hk=>.inr (by rw[show k=xb from hk];have:=RM.out;have:=RG.out;omega)
 have afi:aW ((W5.alloc (.cells (mC q fun _=>EE) 54)).setCell ⟨xb,19,none⟩ (aU W5.heap.size q q)) A1 c.h.length m1 c.h:=HH6.mH j7 fun h0 k hk e=>by have:=(bL k h0 hk).2;have:=RM.out;have e:k=xb:=e;have:=adb.out;have:=RG.out;omega
 refine⟨o,⟨xb,tb,EG,scc,W5.heap.size,aJ,.slice A1 c.h.length m1,aJ,fun _=>aJ,i⟩,rfl,{
  aq:=by rw[eN];exact hX7
  slots:=by rw[eN];exact j7.aq HS6 fun e=>by have e:W5.heap.size=xb:=e;omega
  fw:=fun j hj=>cX.nil _ _
  rc:=tz.dC j7 (fun k hk e=>by have:=hNR k hk;have e:k=xb:=e;omega) fun k cs e _=>by
   rw[show k=xb from e];exact⟨fun hb=>(HX6.off hb aD) rfl,fun hb=>(HX6.off hb aD) rfl⟩
  gd:=HG.out,dd:=fun b l e=>by cases e
  keys:=fun b=>by
   show(none:Option (List Int)).isSome=true↔b∈(aQ c 0 hP hk).sp.all (aQ c 0 hP hk).s0
   rw[(aQ c 0 hP hk).nil];simp
  rg:=fun b hb=>by
   have hb:b∈(aQ c 0 hP hk).sp.all (aQ c 0 hP hk).s0:=hb;rw[(aQ c 0 hP hk).nil]at hb
   cases hb
  yk:=j7.aq kI fun e=>by have e:tb=xb:=e;omega
  its:=⟨rfl,.inl ⟨rfl,rfl⟩⟩
  cap:=by
   have hci:=(HC6.aA j7 fun k hk e=>by
    have e1:EG=k:=aG.1 hk;have e:k=xb:=e;omega).at
   obtain⟨A9,c9,e9,_,_,h9⟩:=hci;intro l h1 h3;obtain⟨g,o9,eA,hc9⟩:=h9 l (by simp;omega);injection e9 with e91 _ _;subst e91;injection eA with eA;injection eA with eg eo;subst eg eo;rw[Nat.zero_add]at hc9;refine hc9.trans ?_;rcases(show l=1∨l=2∨l=3 by omega)with rfl|rfl|rfl<;>rfl
  tD:=by
   obtain⟨cs,hb⟩:=HC6.fQ (k:=EG) (aG.2 rfl);exact⟨cs,j7.aq hb fun e=>by have e:EG=xb:=e;omega⟩
  oq:=Sy
  bw:=⟨A1,c.h.length,m1,rfl,afi,fun h0 k hk hW=>by
   have h1:=bL.out k h0 hk;have h2:=RM.out;have h3:=adb.out;have h4:=RG.out;rcases hW with hW|hW|hW|hW|hW
   ·have:=GF.out k hW;omega
   ·have e:k=xb:=hW;omega
   ·have e:k=tb:=hW;have:=jX.out;omega
   ·have e:k=W5.heap.size:=hW;omega
   ·exact(a7 hW).elim⟩
  en:=dy.nil _ _ _
  fs:=fun k hk=>by
   have h1:=hNR k hk;obtain⟨h2,h3⟩:=HN4.out k hk;exact⟨fun e=>by have e:k=xb:=e;omega,h2,fun e=>h3 (aG.2 (show EG=k from e.symm)),fun e=>by have e:k=W5.heap.size:=e;omega,fun e=>(a7 e).elim,fun e=>(a7 e).elim⟩
  lo:=fun k hW=>by
   show B≤k
   have h1:=af1.out;have h2:=RM.out;have h4:=RG.out;rcases hW with hW|hW|hW|hW|hW
   ·have:=kg.out k hW;omega
   ·have e:k=xb:=hW;omega
   ·have e:k=tb:=hW;have:=Qt.out;omega
   ·have e:k=W5.heap.size:=hW;omega
   ·exact(a7 hW).elim
  zn:=fun k=>Iff.rfl
  right:=HP.out},fun k hW=>?_,Vd⟩
 have h2:=RM.out;have h4:=RG.out;rcases hW with(hW|hW|hW|hW|hW)|⟨h0,hW⟩
 ·exact kg k hW
 ·have e:k=xb:=hW;omega
 ·have e:k=tb:=hW;have:=Qt.out;omega
 ·have e:k=W5.heap.size:=hW;omega
 ·exact(a7 hW).elim
 ·exact(bL k h0 hW).1
end
section
variable {c:aM}{hP:cK c}{hk:0<3}{Z:ZN}{w:World}{a:cH (aQ c 0 hP hk)}{o:cJ (aQ c 0 hP hk) c 0}{r:kK}{N:CM (aQ c 0 hP hk).σ}{Dr:Nat→List Int}{e1 e2:List nP}{k:Nat}
def KC (Z:ZN)(a:cH (aQ c 0 hP hk))(o:cJ (aQ c 0 hP hk) c 0)(r:kK)(N:CM (aQ c 0 hP hk).σ)(e1 e2:List nP)(x:iO)(w:World)(e:Ending)(w':World):Prop:=
 ∃Z' a' o' r' uO,e= .returned (.bool true)∧Z'.B=Z.B∧LJ Z' a' o' r' ((lI (aQ c 0 hP hk) c N x).wE (e1 ++ (lI (aQ c 0 hP hk) c N x).en)) ((lI (aQ c 0 hP hk) c N x).wE (e2 ++ (lI (aQ c 0 hP hk) c N x).en)) uO w'∧zD a o r a' o' r' w w'
section
theorem Pq (h:LJ Z a o r (N.wE e1) (N.wE e2) Dr w)(hp:DF (aQ c 0 hP hk) c N k){x:iO}{dv:Value}(hd:cX Z w dv x.d)(h0:x.kind≠0)(h1:x.kind≠1)(h2:x.kind≠2)(h3:x.kind≠3)(h4:x.kind≠4):
 Calls Tryz.prog 18 #[aO a.l,aO r.x,.agg (bV x dv)] w (KC Z a o r N e1 e2 x w):=by
 obtain⟨A,q,rfl⟩:=hd.shape;have hs:lI (aQ c 0 hP hk) c N x=N:=by unfold lI;rw[if_neg h0,if_neg ao,if_neg h2,if_neg h3]
 have HS:=ae hs;have UP:=ae hp.en;have b0:(x.kind==0)=false:=by simpa using h0
 have b1:(x.kind==1)=false:=by simpa using h1
 have b2:(x.kind==2)=false:=by simpa using h2
 have b3:(x.kind==3)=false:=by simpa using h3
 have b4:(x.kind==4)=false:=by simpa using h4
 have ho:ag az w (w.alloc (.cells (bV x (.slice A x.d.length q)) 39)):=(ag.aj az w).alloc _;have HA:=ae<|Box.fresh w 39 (bV x (.slice A x.d.length q));have HO:=ae ho;have H:=ae<|h.keep ho;clear h hp hd hs h0 h1 h2 h3 h4 ho
 go_enter Tryz.func18,Tryz.ntmps18
 go_upto_region 1 with fail;change Code.wp _ _ _ _ (w.alloc (.cells (bV x (.slice A x.d.length q)) 39));generalize w.alloc (.cells (bV x (.slice A x.d.length q)) 39)=W at *;generalize w.heap.size=ab at *;have x0:aw W ab 0 x.kind:=HA.af rfl;go_wp2;go_ret;exact⟨Z,a,o,r,Dr,rfl,rfl,by rw[HS.out,UP.out,List.append_nil,List.append_nil];exact H,zD.refl HO⟩
theorem abJ (h:LJ Z a o r (N.wE e1) (N.wE e2) Dr w)(hp:DF (aQ c 0 hP hk) c N k){x:iO}{dv:Value}(hd:cX Z w dv x.d)(h2:x.kind=2):
 Calls Tryz.prog 18 #[aO a.l,aO r.x,.agg (bV x dv)] w (KC Z a o r N e1 e2 x w):=by
 obtain⟨A,q,rfl⟩:=hd.shape;have hs:lI (aQ c 0 hP hk) c N x= {N with up:=true}:=by unfold lI;rw[if_neg ao,if_neg ao,if_pos h2]
 have HS:=ae hs;have UP:=ae hp.en;have HK:=ae h2;have ho:ag az w (w.alloc (.cells (bV x (.slice A x.d.length q)) 39)):=(ag.aj az w).alloc _;have HA:=ae<|Box.fresh w 39 (bV x (.slice A x.d.length q));have HO:=ae ho;have H:=ae<|h.keep ho;clear h hp hd hs h2 ho
 go_enter Tryz.func18,Tryz.ntmps18
 go_upto_region 1 with fail;change Code.wp _ _ _ _ (w.alloc (.cells (bV x (.slice A x.d.length q)) 39));generalize w.alloc (.cells (bV x (.slice A x.d.length q)) 39)=W at *;generalize w.heap.size=ab at *;have x0:aw W ab 0 2:=by rw[←HK.out];exact HA.af rfl
 have y21:=H.q.yh;have f21:W.frozen? ⟨r.x,21,none⟩=false:=H.q.aq.free 21;have j1:ag (ar r.x) W (W.setCell ⟨r.x,21,none⟩ (.bool true)):=(ag.aj (ar r.x) W).setCell (p:=⟨r.x,21,none⟩) (.inl (show ar r.x r.x from rfl)) _;have pA:vO o r r W (W.setCell ⟨r.x,21,none⟩ (.bool true)):=⟨rfl,rfl,rfl,fun _ h=>.inl h,j1.mono fun k hk=>by rw[show k=r.x from hk];exact .inl (.inr (.inl rfl))⟩;have H1:=ae<|H.ref (H.q.MG true) pA;have Z8:=ae<|(zD.refl (a:=a) (o:=o) (r:=r) HO).trans pA.lj;clear j1 pA HA HO;go_upto_region 17 with fail;change Code.wp _ _ _ _ (W.setCell ⟨r.x,21,none⟩ (.bool true));clear y21 f21 x0 H;generalize W.setCell ⟨r.x,21,none⟩ (.bool true)=W1 at *;have HU:=ae<|KZ H1.p;go_wp2_with (first|(go_at_call 23;refine HU.mono ?_;rintro e W2 ⟨v1,rfl,hm,hb,ho⟩;have td:=aB (ib c a a W1 W2) (⟨rfl,fun _ h=>.inl h,fun _ h=>.inl h,ho⟩);have H2:=ae<|H1.prog hb td;have nz:=aB (bg Z W2 W1.heap.size v1 (dx N.S (cN c))) (hm);have HQ:=ae<|Tu H2.q;clear hm hb ho)|(go_at_call 57;refine HQ.mono ?_;rintro e W3 ⟨v2,rfl,hm,ho⟩;have oG:=aB (bg Z W3 W2.heap.size v2 (dx N.S (cN c))) (hm);have yw:=ae<|nz.keep ho;have bn:=ae ho;have HC:=ae<|yX yw oG;clear hm ho)|(go_at_call 55;refine HC.mono ?_;rintro e W4 ⟨rfl,cI⟩));go_ret;have ho:=bn.trans cI;exact⟨Z,a,o,r,Dr,rfl,rfl,by rw[HS.out,show({N with up:=true}:CM (aQ c 0 hP hk).σ).en= []from UP.out,List.append_nil,List.append_nil];exact H2.keep ho,(Z8.trans td.lj).keep ho⟩
theorem mc{P:Prop}(h:P:=by
 rcases h1 with e|e
 ·exact⟨true,false,by rw[e];rfl,by rw[e];rfl,by rw[e];rfl,.inl rfl⟩
 ·exact⟨false,true,by rw[e];rfl,by rw[e];rfl,by rw[e];rfl,.inr ⟨rfl,rfl⟩⟩):P:=h
theorem IF (h:LJ Z a o r (N.wE e1) (N.wE e2) Dr w)(hp:DF (aQ c 0 hP hk) c N k)(nO:k≤1000)(U9:e1.length≤1000)(Qk:e2.length≤1000){x:iO}{dv:Value}(hd:cX Z w dv x.d)(h1:x.kind=1∨x.kind=4):
 Calls Tryz.prog 18 #[aO a.l,aO r.x,.agg (bV x dv)] w (KC Z a o r N e1 e2 x w):=by
 obtain⟨A,q,rfl⟩:=hd.shape;have hs:lI (aQ c 0 hP hk) c N x=bd (aQ c 0 hP hk).sp c (cN c) N (nH (cN c) N.S x).m (nH (cN c) N.S x).d:=by unfold lI;rw[if_neg ao,if_pos h1]
 have HS:=ae hs;have tx:=ae h.q.rg;have ui:=ae hp;have yj:=ae nO;have lH:=ae U9;have yz:=ae Qk;have HK1:=ae h1;have ho:ag az w (w.alloc (.cells (bV x (.slice A x.d.length q)) 39)):=(ag.aj az w).alloc _;have HA:=ae<|Box.fresh w 39 (bV x (.slice A x.d.length q));have HO:=ae ho;have H:=ae<|h.keep ho;have HD:=ae<|hd.keep ho;clear h hp hd hs nO U9 Qk ho
 go_enter Tryz.func18,Tryz.ntmps18
 go_upto_region 1 with fail;change Code.wp _ _ _ _ (w.alloc (.cells (bV x (.slice A x.d.length q)) 39));generalize w.alloc (.cells (bV x (.slice A x.d.length q)) 39)=W at *;generalize w.heap.size=ab at *;have x0:aw W ab 0 x.kind:=HA.af rfl;have hh:=zr (a:=x) H.q HD;rw[show(N.wE e2).S=N.S from rfl]at hh;have HH:=ae hh;clear hh;generalize hpm:nH (cN c) N.S x=pm at *;clear hpm;have key:∃b1 b4:Bool,(x.kind==0)=false∧(x.kind==1)=b1∧(x.kind==4)=b4∧(b1=true∨(b1=false∧b4=true)):=by
  exact mc
 clear h1;obtain⟨b1,b4,q0,q1,q4,qq⟩:=key;rcases qq with rfl|⟨rfl,rfl⟩
 all_goals
  go_upto_region 13 with(first|(refine fH (bV x (.slice A x.d.length q)) HA Tryz.underlying39 ?_)|(go_at_call 15;refine HH.mono ?_;rintro e W1 ⟨A1,q1,rfl,F7,aR⟩;have jL:=ae F7;have aX:=ae<|HO.trans aR;have H1:=ae<|H.keep aR;clear F7 aR)|(refine fJ (aP pm.m (.slice A1 pm.d.length q1)) (Box.fresh W1 37 lE) (lz _ _ _ _) ?_));have bp:ag az W1 ((W1.alloc (.cells lE 37)).setRow W1.heap.size (aP pm.m (.slice A1 pm.d.length q1))):=((ag.aj az W1).alloc _).au (.inr (dm _)) _;have nz:=ae<|(Box.fresh W1 37 lE).au (aP pm.m (.slice A1 pm.d.length q1));have H2:=ae<|H1.keep bp;have tA:=ae<|jL.keep bp;have bf:=ae<|aX.trans bp;have fh:=aB (¬tk a o r W1.heap.size) (fun e=>by have:=H1.kB e;omega);change Code.wp _ _ _ _ ((W1.alloc (.cells lE 37)).setRow W1.heap.size (aP pm.m (.slice A1 pm.d.length q1)));clear bp H1 jL aX H HD HO HH x0 HA;generalize(W1.alloc (.cells lE 37)).setRow W1.heap.size (aP pm.m (.slice A1 pm.d.length q1))=W2 at *;generalize W1.heap.size=mb at *;have YI:=ae<|B0 (m:=pm.m) H2 tx ui yj lH tA;go_upto_region 14 with(first|(refine fH (aP pm.m (.slice A1 pm.d.length q1)) nz Tryz.underlying37 ?_)|(go_at_call 16;refine YI.mono ?_;rintro e W3 ⟨u3,a3,rfl,hm,hj,hs⟩;have Qr:=ae hm;have H3:=ae hj;have AF:=ae<|(zD.refl bf).trans hs;have oG:=ae<|hs.o.aq nz fh;have tf:=ae<|tA.aA hs.o H2.Md;have aa5:=aB (¬tk a3 o r mb) (fun e=>(hs.W mb e).elim fh fun e=>by have:=nz.lt;omega);have py:=aB (∀k,tk a3 o r k→tk a o r k∨W2.heap.size≤k) (hs.W);have Qq:=aB (∀k,aK u3 k→¬tk a3 o r k) (fun k hk e=>e.elim (fun e=>absurd (hj.p.Gg e (hm.aq hk).2.choose_spec) aD) fun e=>by have:=(hm.aq hk).1;have:=H2.q.kB e;omega);clear hm hj hs));have HRH:=ae<|BZ (m:=pm.m) H3 ui yj yz tf;go_wp2_with (first|(refine fH (aP pm.m (.slice A1 pm.d.length q1)) oG Tryz.underlying37 ?_)|(go_at_call 17;refine HRH.mono ?_;rintro e W4 ⟨u4,r4,YL,rfl,hm,hj,hs⟩;have H4:=ae hj;have Gu:=ae<|AF.trans hs;have Vo:=ae<|Qr.aA hs.o H3.Md Qq;have HC:=ae<|yX Vo hm;clear hm hj hs)|(go_at_call 55;refine HC.mono ?_;rintro e W5 ⟨rfl,cA⟩));go_ret;exact⟨Z,a3,o,r4,YL,rfl,rfl,by rw[HS.out];exact H4.keep cA,Gu.keep cA⟩
theorem TY (h:LJ Z a o r (N.wE e1) (N.wE e2) Dr w)(hp:DF (aQ c 0 hP hk) c N k){x:iO}{dv:Value}(hd:cX Z w dv x.d)(h3:x.kind=3):
 Calls Tryz.prog 18 #[aO a.l,aO r.x,.agg (bV x dv)] w (KC Z a o r N e1 e2 x w):=by
 obtain⟨A,q,rfl⟩:=hd.shape;have hs:lI (aQ c 0 hP hk) c N x=zP (aQ c 0 hP hk).s0 N:=by unfold lI;rw[if_neg ao,if_neg ao,if_neg ao,if_pos h3]
 have HS:=ae hs;have UP:=ae hp.en;have HK:=ae h3;have ho:ag az w (w.alloc (.cells (bV x (.slice A x.d.length q)) 39)):=(ag.aj az w).alloc _;have HA:=ae<|Box.fresh w 39 (bV x (.slice A x.d.length q));have HO:=ae ho;have H:=ae<|h.keep ho;clear h hp hd hs h3 ho
 go_enter Tryz.func18,Tryz.ntmps18
 go_upto_region 1 with fail;change Code.wp _ _ _ _ (w.alloc (.cells (bV x (.slice A x.d.length q)) 39));generalize w.alloc (.cells (bV x (.slice A x.d.length q)) 39)=W at *;generalize w.heap.size=ab at *;have x0:aw W ab 0 3:=by rw[←HK.out];exact HA.af rfl
 have HG:=ae<|IK (kp hP hk) H.p;go_upto_region 20 with(go_at_call 22;refine HG.mono ?_;rintro e W1 ⟨a1,rfl,hb,hs⟩);have H1:=ae<|H.prog hb hs;have Z8:=ae<|(zD.refl (a:=a) (o:=o) (r:=r) HO).trans hs.lj;clear hb hs HG x0 H HA HO;obtain⟨Ah,nh,mh,F5,bw,_⟩:=id H1.q.bw;have JY:=aB (∀j v,(ak c (.slice Ah nh mh)).toList[j]? =some v→aE W1 r.x (0+j) v) (fun j v hj=>by
  rw[Nat.zero_add];refine H1.q.aq.af ?_;rw[F5];unfold br;rw[Array.getElem?_append_left (by have:=(List.getElem?_eq_some_iff.1 hj).1;simpa using this),←Array.getElem?_toList];exact hj)
 have py:=ae<|uo (hk:=hk) hP W1 bw (dm _);have HKG:=ae<|SU hP hk W1 bw;clear F5 bw;go_upto_region 21 with(first|(refine wpList_load_mid rfl 25 _ rfl r.x 0 rfl (ak c (.slice Ah nh mh)).toList _ JY Tryz.underlying25 rfl bZ ?_)|(go_at_call 12;refine py.mono ?_;rintro e W2 ⟨o2,r2,rfl,hq,hf,ho⟩;have NT:=ae hq;have lG:=ae hf;have bf:=ae ho;clear hq hf ho));have y2:aE W2 r2.x 17 (aO r2.r.cb):=NT.mD;have dX:=bf.aq H1.q.aq id;have UT:aE W2 r.x 17 (aO r.r.cb):=dX.af rfl;have f17:W2.frozen? ⟨r.x,17,none⟩=false:=dX.free 17;have y21:∀v,aE (W2.setCell ⟨r.x,17,none⟩ v) r.x 21 (.bool N.up):=fun v=>(dX.store 17 v).af rfl
 have f21:∀v,(W2.setCell ⟨r.x,17,none⟩ v).frozen? ⟨r.x,21,none⟩=false:=fun v=>(dX.store 17 v).free 21
 clear dX;go_wp2;go_ret;have hl:=H1.gone NT.rc bf (fun k hk=>lG k (.inl (.inl hk))) (fun k hk=>NT.kB (.inl hk)) HKG;have j3:ag (ar r.x) W2 ((W2.setCell ⟨r.x,17,none⟩ (aO r2.r.cb)).setCell ⟨r.x,21,none⟩ (.bool false)):=((ag.aj (ar r.x) W2).setCell (p:=⟨r.x,17,none⟩) (.inl (show ar r.x r.x from rfl)) _).setCell (p:=⟨r.x,21,none⟩) (.inl (show ar r.x r.x from rfl)) _;refine⟨⟨Z.B,ke o2 r2.r⟩,a1,o2,{r with r:=r2.r},fun _=>[],rfl,rfl,?_,Z8.trans ⟨rfl,rfl,fun k hk=>?_,fun k hk=>?_,(bf.mono (S':=tk a1 o r) fun _ h=>h.elim).aC j3 fun k hk=>.inl (by rw[show k=r.x from hk];exact .inr (.inr (.inl rfl)))⟩⟩
 ·rw[HS.out,show(zP (aQ c 0 hP hk).s0 N).en= []from UP.out,List.append_nil,List.append_nil];exact hl
 ·rcases hk with hk|hk|hk
  ·exact .inl (.inl hk)
  ·exact .inr (lG k (.inl (.inl hk)))
  ·exact .inl (.inr (.inr hk))
 ·rcases hk with hk|(hk|hk)|hk
  ·exact .inl (.inl hk)
  ·exact .inr (lG k (.inl (.inl hk)))
  ·exact .inl (.inr (.inl (.inr hk)))
  ·exact .inl (.inr (.inr hk))
theorem Pp (h:LJ Z a o r (N.wE e1) (N.wE e2) Dr w)(hp:DF (aQ c 0 hP hk) c N k){x:iO}{dv:Value}(hd:cX Z w dv x.d)(hl:x.d.length≤1000000)(h0:x.kind=0)(hc:dJ c N.S x.slot x.wr (x.m.f 5) x.d.length≠0):
 Calls Tryz.prog 18 #[aO a.l,aO r.x,.agg (bV x dv)] w (KC Z a o r N e1 e2 x w):=by
 obtain⟨A,q,rfl⟩:=hd.shape;have hs:lI (aQ c 0 hP hk) c N x=N:=by unfold lI;rw[if_pos h0,if_neg hc]
 have HS:=ae hs;have UP:=ae hp.en;have HK:=ae h0;have HC:=ae hc;have HL:=ae hl;have ho:ag az w (w.alloc (.cells (bV x (.slice A x.d.length q)) 39)):=(ag.aj az w).alloc _;have HA:=ae<|Box.fresh w 39 (bV x (.slice A x.d.length q));have HO:=ae ho;have H:=ae<|h.keep ho;obtain⟨A',cp',e',_,_,gj⟩:=(hd.keep ho).1;injection e' with ZY _ e3';subst ZY e3';have tG:=ae gj;clear h hp hd hs h0 ho hc hl gj
 go_enter Tryz.func18,Tryz.ntmps18
 go_upto_region 1 with fail;change Code.wp _ _ _ _ (w.alloc (.cells (bV x (.slice A x.d.length q)) 39));generalize w.alloc (.cells (bV x (.slice A x.d.length q)) 39)=W at *;obtain⟨ab,ic⟩:∃ab,ab=w.heap.size:=⟨_,rfl⟩;rw[←ic]at HA ⊢;clear ic;have x0:aw W ab 0 0:=by rw[←HK.out];exact HA.af rfl
 have QF:aE W ab 13 (.slice A x.d.length q):=HA.af rfl;have wR:Row 5 (W.alloc (.cells #[] 5)) (aU W.heap.size 0 0) []:=.inr ⟨W.heap.size,0,#[],rfl,Box.fresh W _ _,dm _,dm _,dT _,rfl⟩;have tu:=ae wR;have RN:=ae<|tG.aA ((ag.aj az W).alloc (.cells #[] 5)) fun _ _ _ _=>id;have bU:=ae (show([]:List Value).length+(bytes x.d).length≤maxLen by rw[gq];have:=HL.out;unfold maxLen;simp;omega);have cO:=ae (show(([]:List Value).length+(bytes x.d).length)*1≤140737488355328 by rw[gq];have:=HL.out;simp;omega);have aaa:aE (W.alloc (.cells #[] 5)) ab 13 (.slice A x.d.length q):=((ag.aj az W).alloc _).cell QF id;clear wR;go_upto_region 4 with(at_builtin;refine cy _ rfl (.tmp 20) (.tmp 23) 35 5 rfl nr rfl Tryz.underlying35 (aU W.heap.size 0 0) [] rfl tu A x.d.length q (bytes x.d) rfl fp RN (mW x.d) bU cO ?_;intro v1 W1 Ml aR C0 _;have tm:=ae Ml;have aX:=ae<|((ag.aj az W).alloc (.cells #[] 5)).aC aR fun j hj=>.inr (Nat.le_of_eq (aG.1 hj));have HK1:=ae C0;clear Ml aR C0);rw[List.nil_append]at tm;have jO:lu W1 v1 x.d:=⟨tm,HL⟩;obtain⟨A1,c1,ev1⟩:=jO.shape;subst ev1;have H1:=ae<|H.keep aX;have eV:=ae<|aX.aq HA id;clear jO QF aaa x0 tu RN bU cO;have DO:=ae<|pX (i:=x.slot) (b:=x.m.f 5) (wr:=x.wr) (A:=A1) (m:=x.d.length) (q:=c1) H1.p HC;have Kf:=ae<|D6 H1.q x.slot (x.m.f 5) x.wr A x.d.length q;have x1:aw W1 ab 1 x.slot:=eV.af rfl;have x2:aE W1 ab 2 (.bool x.wr):=eV.af rfl;have x8:aw W1 ab 8 (x.m.f 5):=eV.af rfl;have QF:aE W1 ab 13 (.slice A x.d.length q):=eV.af rfl;have hcc:(dJ c N.S x.slot x.wr (x.m.f 5) x.d.length != 0)=true:=by simpa using HC.out
 rw[show(N.wE e1).S=N.S from rfl]at DO;rw[show(N.wE e2).S=N.S from rfl]at Kf;generalize dJ c N.S x.slot x.wr (x.m.f 5) x.d.length=code at *;go_wp2_with (first|(go_at_call 13;refine DO.mono ?_;rintro e W2 ⟨rfl,rfl⟩)|(go_at_call 54;refine Kf.mono ?_;rintro e W3 ⟨rfl,rfl⟩));go_ret;exact⟨Z,a,o,r,Dr,by simp,rfl,by rw[HS.out,UP.out,List.append_nil,List.append_nil];exact H1,zD.refl (HO.trans aX)⟩
theorem Pr (h:LJ Z a o r (N.wE e1) (N.wE e2) Dr w)(hp:DF (aQ c 0 hP hk) c N k)(nO:k≤1000)(U9:e1.length≤1000)(Qk:e2.length≤1000){x:iO}{dv:Value}(hd:cX Z w dv x.d)(hl:x.d.length≤1000000)(h0:x.kind=0)(hc:dJ c N.S x.slot x.wr (x.m.f 5) x.d.length=0):
 Calls Tryz.prog 18 #[aO a.l,aO r.x,.agg (bV x dv)] w (KC Z a o r N e1 e2 x w):=by
 obtain⟨A,q,rfl⟩:=hd.shape;have hs:lI (aQ c 0 hP hk) c N x=bB (aQ c 0 hP hk).sp c (cN c) N x.slot.toNat x.wr (x.m.f 5) x.d:=by unfold lI;rw[if_pos h0,if_pos hc]
 have HS:=ae hs;have ui:=ae hp;have yj:=ae nO;have lH:=ae U9;have yz:=ae Qk;have HK:=ae h0;have HC:=ae hc;have HL:=ae hl;have ho:ag az w (w.alloc (.cells (bV x (.slice A x.d.length q)) 39)):=(ag.aj az w).alloc _;have HA:=ae<|Box.fresh w 39 (bV x (.slice A x.d.length q));have HAX:=aB (¬tk a o r w.heap.size) (fun e=>by have:=h.kB e;omega);have HO:=ae ho;have H:=ae<|h.keep ho;have HD:=ae<|hd.keep ho;obtain⟨A',cp',e',_,_,gj⟩:=(hd.keep ho).1;injection e' with ZY _ e3';subst ZY e3';have tG:=ae gj;clear h hp nO U9 Qk hd hs h0 ho hc hl gj
 go_enter Tryz.func18,Tryz.ntmps18
 go_upto_region 1 with fail;change Code.wp _ _ _ _ (w.alloc (.cells (bV x (.slice A x.d.length q)) 39));generalize w.alloc (.cells (bV x (.slice A x.d.length q)) 39)=W at *;obtain⟨ab,ic⟩:∃ab,ab=w.heap.size:=⟨_,rfl⟩;rw[←ic]at HA HAX ⊢;clear ic;have x0:aw W ab 0 0:=by rw[←HK.out];exact HA.af rfl
 have QF:aE W ab 13 (.slice A x.d.length q):=HA.af rfl;have wR:Row 5 (W.alloc (.cells #[] 5)) (aU W.heap.size 0 0) []:=.inr ⟨W.heap.size,0,#[],rfl,Box.fresh W _ _,dm _,dm _,dT _,rfl⟩;have tu:=ae wR;have RN:=ae<|tG.aA ((ag.aj az W).alloc (.cells #[] 5)) fun _ _ _ _=>id;have bU:=ae (show([]:List Value).length+(bytes x.d).length≤maxLen by rw[gq];have:=HL.out;unfold maxLen;simp;omega);have cO:=ae (show(([]:List Value).length+(bytes x.d).length)*1≤140737488355328 by rw[gq];have:=HL.out;simp;omega);have aaa:aE (W.alloc (.cells #[] 5)) ab 13 (.slice A x.d.length q):=((ag.aj az W).alloc _).cell QF id;clear wR;go_upto_region 4 with(at_builtin;refine cy _ rfl (.tmp 20) (.tmp 23) 35 5 rfl nr rfl Tryz.underlying35 (aU W.heap.size 0 0) [] rfl tu A x.d.length q (bytes x.d) rfl fp RN (mW x.d) bU cO ?_;intro v1 W1 Ml aR C0 _;have tm:=ae Ml;have aX:=ae<|((ag.aj az W).alloc (.cells #[] 5)).aC aR fun j hj=>.inr (Nat.le_of_eq (aG.1 hj));have HK1:=ae C0;clear Ml aR C0);rw[List.nil_append]at tm;have jO:lu W1 v1 x.d:=⟨tm,HL⟩;obtain⟨A1,c1,ev1⟩:=jO.shape;subst ev1;have H1:=ae<|H.keep aX;have eV:=ae<|aX.aq HA id;clear jO QF aaa x0 tu RN bU cO;have jL:=ae<|HD.keep aX;have JV:=aB (cX Z W1 (.slice A1 x.d.length c1) x.d) (cX.row tm gO fun j hj e=>by
  have h9:=H.p.AX j e;rcases HK1 j hj with e9|e9
  ·have:=aG.1 e9;omega
  ·rw[World.size_alloc]at e9;omega)
 have DO:=ae<|uF (wr:=x.wr) H1 ui yj lH HC JV;have x1:aw W1 ab 1 x.slot:=eV.af rfl;have x2:aE W1 ab 2 (.bool x.wr):=eV.af rfl;have x8:aw W1 ab 8 (x.m.f 5):=eV.af rfl;obtain⟨OP,Qm⟩:∃OP:Int,OP=((N.ops+1:Nat):Int):=⟨_,rfl⟩;rw[←Qm]at DO;have oF:=ae Qm;clear Qm;go_upto_region 5 with(go_at_call 13;refine DO.mono ?_;rintro e W2 ⟨u2,a2,rfl,hm,hj,hs⟩;have HU2:=ae hm;have H2:=ae hj;have td:=ae hs;obtain⟨Au,cu,eu,_,_⟩:=hm.shape;subst eu;clear hm hj hs);have k7:=ae<|td.o.aq eV HAX;have tA:=ae<|jL.aA td.o H1.Md;have aga:=ae<|JV.aA td.o H1.Md;have agh:=aB (¬tk a2 o r ab) (fun e=>(td.W ab e).elim HAX fun e=>by have:=eV.lt;omega);have Qq:=aB (∀k,aK (.slice Au (dK (aQ c 0 hP hk).sp c (cN c) N x.slot.toNat x.wr (x.m.f 5) x.d).length cu) k→¬tk a2 o r k) (fun k hk e=>e.elim (fun e=>absurd (H2.p.Gg e (HU2.aq hk).2.choose_spec) aD) fun e=>by have:=(HU2.aq hk).1;have:=H1.q.kB e;omega);have Kf:=D6 H2.q x.slot (x.m.f 5) x.wr A x.d.length q;rw[show dJ c (N.wE e2).S x.slot x.wr (x.m.f 5) x.d.length=0 from HC.out]at Kf;have Kf:=ae Kf;have eQ:=ae<|zm (wr:=x.wr) H2 ui yj yz HC tA;clear x1 x2 x8 DO;have x1:aw W2 ab 1 x.slot:=k7.af rfl;have x2:aE W2 ab 2 (.bool x.wr):=k7.af rfl;have x8:aw W2 ab 8 (x.m.f 5):=k7.af rfl;have QF:aE W2 ab 13 (.slice A x.d.length q):=k7.af rfl;generalize hT:dK (aQ c 0 hP hk).sp c (cN c) N x.slot.toNat x.wr (x.m.f 5) x.d=T at *;go_upto_region 9 with(first|(go_at_call 54;refine Kf.mono ?_;rintro e W3 ⟨rfl,rfl⟩)|(go_at_call 14;refine eQ.mono ?_;rintro e W4 ⟨u4,r4,YL,rfl,hm,hj,hs⟩;have yw:=ae hm;have H4:=ae hj;have Gu:=ae hs;have Vo:=ae<|HU2.aA hs.o H2.Md Qq;have wN:=ae<|yX Vo hm;obtain⟨Av,cv,ev,_,_⟩:=hm.shape;subst ev;clear hm hj hs));have gZ:=ae<|Gu.o.aq k7 agh;have DM:=ae<|tA.aA Gu.o H2.Md;have af9:=ae<|aga.aA Gu.o H2.Md;have HSM:=ae fun(W:World) (ho:ag az W4 W)=>by
  have:=xE (.slice A1 x.d.length c1) (.slice A x.d.length q) x.d x.d W (af9.1.keep ho fun _ _ _ _=>id) (DM.1.keep ho fun _ _ _ _=>id);rwa [decide_eq_true (rfl:x.d=x.d)]at this
 have z20:aw W4 r4.x 20 OP:=by
  have:=H4.q.Kd;rw[oF.out,←uc (sp:=(aQ c 0 hP hk).sp) (c:=c) (n:=cN c) (M:=N) x.slot.toNat x.wr (x.m.f 5) x.d];exact this
 have hxx:r4.x=r.x:=Gu.x;rw[hxx]at z20;clear x1 x2 x8 QF hxx;go_wp2_with (first|(go_at_call 55;refine wN.mono ?_;rintro e W5 ⟨rfl,cA⟩;have QF:aE W5 ab 13 (.slice A x.d.length q):=cA.cell (gZ.af rfl) id;have bM:=ae cA;have NS:=ae<|HSM W5 cA;clear cA)|(go_at_call 56;refine NS.mono ?_;rintro e W6 ⟨rfl,mm,rfl⟩));go_ret;have nN:ag az W4 (W5.drewN mm):=bM.drewN _;exact⟨Z,a2,o,r4,YL,by simp,rfl,by rw[HS.out];exact H4.keep nN,(((zD.refl (HO.trans aX)).trans td).trans Gu).keep nN⟩
theorem xu (h:LJ Z a o r (N.wE e1) (N.wE e2) Dr w)(hp:DF (aQ c 0 hP hk) c N k)(nO:k≤1000)(U9:e1.length≤1000)(Qk:e2.length≤1000){x:iO}{dv:Value}(hd:cX Z w dv x.d)(hl:x.d.length≤1000000):
 Calls Tryz.prog 18 #[aO a.l,aO r.x,.agg (bV x dv)] w (KC Z a o r N e1 e2 x w):=by
 by_cases h0:x.kind=0
 ·by_cases hc:dJ c N.S x.slot x.wr (x.m.f 5) x.d.length=0
  ·exact Pr h hp nO U9 Qk hd hl h0 hc
  ·exact Pp h hp hd hl h0 hc
 by_cases h1:x.kind=1
 ·exact IF h hp nO U9 Qk hd (.inl h1)
 by_cases h4:x.kind=4
 ·exact IF h hp nO U9 Qk hd (.inr h4)
 by_cases h2:x.kind=2
 ·exact abJ h hp hd h2
 by_cases h3:x.kind=3
 ·exact TY h hp hd h3
 exact Pq h hp hd h0 h1 h2 h3 h4
end
end
section
theorem Jr (w:World):Calls Tryz.prog 30 #[] w fun e w'=>e= .returned (.agg (ak lc aJ))∧ag az w w':=by
 have HB:=ae<|Box.fresh w 25 #[ah 0,ah 0,ah 0,ah 0,ah 0,ah 0,ah 0,ah 0,ah 0,ah 0,ah 0,ah 0,ah 0,ah 0,ah 0,ah 0,aJ];have HO:=aB (ag az w (w.alloc (.cells #[ah 0,ah 0,ah 0,ah 0,ah 0,ah 0,ah 0,ah 0,ah 0,ah 0,ah 0,ah 0,ah 0,ah 0,ah 0,ah 0,aJ] 25))) ((ag.aj az w).alloc _)
 go_enter Tryz.func30,Tryz.ntmps30
 go_upto_region 1 with fail;generalize w.alloc (.cells #[ah 0,ah 0,ah 0,ah 0,ah 0,ah 0,ah 0,ah 0,ah 0,ah 0,ah 0,ah 0,ah 0,ah 0,ah 0,ah 0,aJ] 25)=W at *;go_wp2_with (refine fJ (ak lc aJ) HB (XO lc none 0 0) ?_)
 (try simp only[Exit.inBlock,Exit.then])
 refine bodyPost_ret (results_cell_row rfl _ _ w.heap.size _ (ak lc aJ) (0,0) _ rfl (HB.au _) Tryz.underlying25 rfl bZ) rfl ?_;exact⟨rfl,HO.au (.inr (dm _)) _⟩
end
section
theorem lB (w:World):Calls Tryz.prog 9 #[] w fun e w'=>e= .returned (.bool true)∧ag az w w':=by
 go_enter Tryz.func9,Tryz.ntmps9
 go_wp2_with fail;refine(Jr w).mono ?_;rintro e W1 ⟨rfl,aR⟩;have aX:=ae aR;clear aR;have hk:0<3:=aD;have HN:=ae<|uv (kp lx hk) lx W1 (A:=none) (n0:=0) (cp:=0) ⟨rfl,dm _,dT _,fun i hi=>absurd hi (Nat.not_lt_zero _)⟩;go_wp2_with fail;refine HN.mono ?_;rintro e W2 ⟨i,l,cb,mb,u,g,eb,sb,hv,pz,rfl,h1,h2,h3,h4,h5,h6,h7,h8,h9,ha,hb,hc,hd,he,hf,ho⟩;have HC:=ae<|iq (km lx hk) (B:=w.heap.size) aX.size h1 h2 h3 h4 h5 h6 h7 ⟨h8,h9,ha,hb,hc,hd,he,hf⟩;have bf:=ae<|aX.trans ho;clear h1 h2 h3 h4 h5 h6 h7 h8 h9 ha hb hc hd he hf ho HN aX;generalize zC:(⟨i,l,cb,mb,u,g,eb,sb,hv,pz,aJ,fun _=>aJ,fun _=>none⟩:cH (aQ lc 0 lx hk))=a at *;obtain rfl:l=a.l:=by rw[←zC]
 clear zC;have De:bG (aQ lc 0 lx hk).sp lc (cN lc) (m0 (aQ lc 0 lx hk)) ((1:Nat):Int)=m0 (aQ lc 0 lx hk):=by unfold bG;rw[if_neg aD]
 have hT:dK (aQ lc 0 lx hk).sp lc (cN lc) (m0 (aQ lc 0 lx hk)) 0 false ((1:Nat):Int) []= []:=by
  unfold dK;rw[De,if_neg (fun e=>by cases e.2)];unfold iY;rw[if_neg aD,if_neg (show¬(m0 (aQ lc 0 lx hk)).up=true from fun e=>by cases e)];rfl
 have hS:(bB (aQ lc 0 lx hk).sp lc (cN lc) (m0 (aQ lc 0 lx hk)) 0 false ((1:Nat):Int) []).S=aI (fun _=>EH) 0 ⟨((0+1:Nat):Int),((1:Nat):Int),b9 lc u0 ((1:Nat):Int),false,[]⟩:=by
  unfold bB;rw[De,if_neg (fun e=>by cases e.2)];rfl
 have cw:(aQ lc 0 lx hk).sp.eE (bG (aQ lc 0 lx hk).sp lc (cN lc) (m0 (aQ lc 0 lx hk)) ((1:Nat):Int)).s<bN:=by
  rw[De]
  show(aQ lc 0 lx hk).sp.eE (aQ lc 0 lx hk).s0<bN
  rw[o8];decide
 have hB:=vw (i:=0) (n:=1) (wr:=false) (d:=[]) HC aD aD (show dJ lc (fun _=>EH) ((0:Nat):Int) false ((1:Nat):Int) 0=0 from by decide) (cX.nil _ _) (dT _) (dT _) cw;have HB:=ae hB;have HT:=ae hT;have HS:=ae hS;have HLO:=ae<|fun k hk=>HC.lo k hk;clear De hT hS cw hB;go_upto_region 5 with(go_at_call 13;refine HB.mono ?_;rintro e W3 ⟨v3,a3,rfl,CZ,Vc,hs3⟩;rw[HT.out]at CZ;obtain⟨A3,c3,e3,_,_⟩:=CZ.shape;subst e3;have ME:=ae Vc;have bn:=ae<|bf.aC hs3.o fun k hk=>.inr (HLO k hk);have oL:=aB (∀k,b6 a3 k→w.heap.size≤k) (Vc.lo);have ky:=aB (a3.l=a.l) (hs3.l);clear CZ Vc hs3);have hU:=KZ ME;rw[ky.out,HS.out]at hU;have HU:=ae hU;clear hU;go_upto_region 6 with(go_at_call 23;refine HU.mono ?_;rintro e W4 ⟨v4,rfl,NI,_,cI⟩;have yw:=ae NI;have bK:=ae<|bn.aC cI fun k hk=>.inr (oL k hk);clear NI cI);have bu:dx (aI (fun _=>EH) 0 ⟨((0+1:Nat):Int),((1:Nat):Int),b9 lc u0 ((1:Nat):Int),false,[]⟩) (cN lc)= [ie 0 ⟨((0+1:Nat):Int),((1:Nat):Int),b9 lc u0 ((1:Nat):Int),false,[]⟩]:=rfl;have hm:=yw.out;rw[bu]at hm;obtain⟨g,cap,A,m,rfl,jU,_⟩:=hm.at_ (i:=0) Nat.zero_lt_one;have z0:aw W4 g 0 1:=jU 0 _ rfl;have z5:aw W4 g 5 1:=jU 5 _ rfl;clear jU hm bu;go_wp2_with fail;go_ret;exact⟨rfl,bK⟩
end
structure Se where
 kind:Int
 level:Int
 b:Int
 data:List Int
instance:Inhabited Se:=⟨⟨0,0,0,[]⟩⟩
def afr (a:Se)(dv:Value):Array Value:=#[ah a.kind,ah a.level,ah a.b,dv]
structure uw (base:Nat)(w:World)(A:Option Addr)(n c:Nat)(L:List Se):Prop where
 len:n=L.length
 cap:n≤c
 max:c≤maxLen
 at_:∀i,i<L.length→∃g o dv,A=some ⟨g,o,none⟩∧g<base∧(∀j u,(afr (L.getD i default) dv)[j]? =some u→aE w g (o+i*4+j) u)∧nD w dv (L.getD i default).data∧(∀k,0<(L.getD i default).data.length→aK dv k→k<base)
theorem uw.aA {S:Nat→Prop}{base:Nat}{w w':World}{A:Option Addr}{n c:Nat}{L:List Se}(h:uw base w A n c L)(ho:ag S w w')(hS:∀k,k<base→¬S k):uw base w' A n c L:=
 ⟨h.len,h.cap,h.max,fun i hi=>by
  obtain⟨g,o,dv,rfl,hg,hc,hb,hk⟩:=h.at_ i hi;exact⟨g,o,dv,rfl,hg,fun j u hj=>ho.cell (hc j u hj) (hS g hg),hb.keep ho fun h0 k UB _=>hS k (hk k h0 UB),hk⟩⟩
theorem uw.keep {base:Nat}{w w':World}{A:Option Addr}{n c:Nat}{L:List Se}(h:uw base w A n c L)(ho:ag az w w'):uw base w' A n c L:=h.aA ho fun _ _=>id
section
theorem L6 {c:aM}(hP:¬cK c)(bc:Int){A:Option Addr}{n cp:Nat}(w:World)(bw:aW w A n cp c.h):
 Calls Tryz.prog 31 #[.agg (ak c (.slice A n cp)),ah bc] w fun e w'=>e= .returned (.tuple #[.pointer none,ah 6])∧ag az w w':=by
 have HI:=ae bw;have HB:=ae<|Box.fresh w 25 (ak c (.slice A n cp));have HO:=ae<|(ag.aj az w).alloc (.cells (ak c (.slice A n cp)) 25);have hr:=D3 A n cp c _ (HI.keep HO);rw[fg hP]at hr;have HR:=ae hr;clear hr bw hP
 go_enter Tryz.func31,Tryz.ntmps31
 go_upto_region 1 with fail;change Code.wp _ _ _ _ (w.alloc (.cells (ak c (.slice A n cp)) 25));generalize w.alloc (.cells (ak c (.slice A n cp)) 25)=W at *;generalize w.heap.size=bb at *;go_wp2_with (first|(refine fH (ak c (.slice A n cp)) HB Tryz.underlying25 ?_)|(go_at_call 66;refine HR.mono ?_;rintro e W2 ⟨rfl,bp⟩));go_ret2;exact⟨rfl,HO.trans bp⟩
end
def ab9 (L:List iO)(W:World)(i:Value)(wr:World):Prop:=∃k:Nat,k≤L.length∧i=ah k∧(∀j,j<k→(L.getD j default).d.length≤100)∧W=wr
section
theorem nx {base:Nat}{w:World}{cf:aM}{A:Option Addr}{m:Nat}{B:Option Addr}{n c:Nat}{L:List iO}(hL:fO base w B n c L)(hm:cf.h.length≤maxLen):
 Calls Tryz.prog 10 #[.agg (ak cf (.slice A cf.h.length m)),.slice B n c] w fun e w'=>e= .returned (.bool (xi cf.h.length L))∧ag az w w':=by
 obtain rfl:=hL.len;have hn:=Nat.le_trans hL.cap hL.max;unfold maxLen at hn hm;have HO:=ae<|(ag.aj az w).alloc (.cells (ak cf (.slice A cf.h.length m)) 25);have HL:=ae<|hL.keep HO;have HB:=ae<|Box.fresh w 25 (ak cf (.slice A cf.h.length m));clear hL
 go_enter Tryz.func10,Tryz.ntmps10
 go_upto_region 1 with fail;change Code.wp _ _ _ _ (w.alloc (.cells (ak cf (.slice A cf.h.length m)) 25));generalize w.alloc (.cells (ak cf (.slice A cf.h.length m)) 25)=W at *;generalize w.heap.size=g at *;have x16:aE W g 16 (.slice A cf.h.length m):=HB.af (fA cf _);have ye:xi cf.h.length L=(decide (20<cf.h.length)||decide (120<L.length)||L.any fun a=>decide (100<a.d.length)):=rfl;have vG:=ae ye;clear ye
 by_cases c1:20<cf.h.length
 ·have c1i:(20:Int)<cf.h.length:=ao;go_wp2;go_ret;exact⟨by rw[vG.out];simp[c1],HO⟩
 ·have c1i:¬(20:Int)<cf.h.length:=ao
  by_cases c2:120<L.length
  ·have c2i:(120:Int)<L.length:=ao;go_wp2;go_ret;exact⟨by rw[vG.out];simp[c2],HO⟩
  ·have c2i:¬(120:Int)<L.length:=ao;go_upto_region 4 with fail
   go_loopw [17] (fun i wr=>ab9 L W i wr) (fun i _=>L.length - (intOf i).toNat)
   case atStart=>exact⟨0,dT _,rfl,fun j hj=>absurd hj ao,rfl⟩
   case round=>
    obtain⟨k,hk,rfl,iQ,rfl⟩:=hrel;have yr:=ae iQ;clear iQ
    by_cases aY:k<L.length
    ·obtain⟨g',o',dv,rfl,hg,hc,hb,_⟩:=HL.at_ k aY;have y3:=hc 13 dv rfl;obtain⟨dA,dc,rfl,_,Yf,_⟩:=id hb;have iV:(k:Int)<L.length:=ao;have bL:=ae aY;have uS:=ae (show L.getD k default∈L by simp[aY]);clear hc hb aY hk;generalize hd:L.getD k default=a at *;have HD:=ae hd;clear hd
     by_cases c3:100<a.d.length
     ·have c3i:(100:Int)<a.d.length:=ao;go_wp2;go_ret;refine⟨?_,HO⟩;rw[vG.out];have:(L.any fun a=>decide (100<a.d.length))=true:=List.any_eq_true.2 ⟨a,uS,by simpa using c3⟩;rw[this];simp
     ·have c3i:¬(100:Int)<a.d.length:=ao;go_wp2
      go_roundw
      case rel=>
       refine⟨k+1,bL,by go_num,fun j hj=>?_,rfl⟩
       by_cases e:j=k
       ·rw[e,HD.out];omega
       ·exact yr j ao
      case measure=>simp[intOf];have:=bL.out;omega
    ·obtain rfl:k=L.length:=ao;clear aY hk;go_wp2;go_ret;refine⟨?_,HO⟩;rw[vG.out];have:(L.any fun a=>decide (100<a.d.length))=false:=List.any_eq_false.2 fun a ha=>by
      obtain⟨j,hj,rfl⟩:=List.getElem_of_mem ha;have:=yr.out j hj;simp[hj]at this;simp;omega
     rw[this];simp[c1,c2]
theorem wu {c:aM}(hP:¬cK c){A:Option Addr}{n0 cp:Nat}(w:World)(bw:aW w A n0 cp c.h):
 Calls Tryz.prog 11 #[.agg (ak c (.slice A n0 cp))] w fun e w'=>e= .returned (.tuple #[.pointer none,ah 6])∧ag az w w':=by
 have HI:=ae bw;have bU:=ae<|Box.fresh w 25 (ak c (.slice A n0 cp));have aX:=ae<|(ag.aj az w).alloc (.cells (ak c (.slice A n0 cp)) 25);have HR:=ae<|L6 hP 1 _ (HI.keep aX);clear bw
 go_enter Tryz.func11,Tryz.ntmps11
 go_upto_region 1 with fail;change Code.wp _ _ _ _ (w.alloc (.cells (ak c (.slice A n0 cp)) 25));generalize w.alloc (.cells (ak c (.slice A n0 cp)) 25)=W1 at *;generalize w.heap.size=bb at *;go_wp2_with (first|(refine fH (ak c (.slice A n0 cp)) bU Tryz.underlying25 ?_)|(go_at_call 31;refine HR.mono ?_;rintro e W2 ⟨rfl,bp⟩;have bf:=ae<|aX.trans bp;clear bp));go_ret2;exact⟨rfl,bf⟩
end
end Go.Proofs.YtchofaecncibjaaGreat

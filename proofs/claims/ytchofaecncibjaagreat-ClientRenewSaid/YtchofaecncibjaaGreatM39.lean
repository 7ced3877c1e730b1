/- Lemmas. -/
import Derived.Test.YtchofaecncibjaaGreatM35
import Derived.Test.YtchofaecncibjaaGreatM38
set_option linter.all false
set_option maxHeartbeats 20000000
set_option maxRecDepth 100000
namespace Go.Proofs.YtchofaecncibjaaGreat
open Go.ChangeShapes Go.RowKit Go.WideShapes
def dE (v:Int)(d:Value)(g:Bool)(e:Int):Array Value:=#[ah v,d,.bool g,ah e]
theorem jd (v:Int)(A:Option Addr)(n c:Nat)(g:Bool)(e:Int):(dE v (.slice A n c) g e).all (·.oneCell')=true:=by simp[dE,Value.oneCell']
theorem Box.there {w:World}{g:Nat}{t:TypeId}{cs:Array Value}(h:Box w g t cs){o n:Nat}(hn:o+n≤cs.size):w.there g o n:=fun j hj=>⟨by rw[h.cell (o+j),Array.getElem?_eq_getElem ao];rfl,h.free _⟩
def ML {K:aZ}{c:aM}{k:Nat}(o:cJ K c k)(i:JO)(s:K.σ)(Dr:Nat→List Int)(n:Nat)(dl:List Int)(w:World)(e:Ending)(w':World):Prop:=
 ∃vd,e= .returned (.agg (dE (if(K.sp.add s n).2.2=true then(K.sp.add s n).2.1 else 0) vd (K.sp.add s n).2.2 0))∧lu w' vd (if(K.sp.add s n).2.2=true then Dr (K.sp.add s n).2.1.toNat else[])∧
  (∀j,aK vd j→o.B≤j)∧ta o i (K.sp.add s n).1 (aI Dr n dl) w'∧ag (ke o i) w w'
section
variable {K:aZ}{c:aM}{k:Nat}{o:cJ K c k}{i:JO}{s:K.σ}{Dr:Nat→List Int}{w:World}
theorem Jc {b:Int}{dl:List Int}{u:Value}{level:Int}(h:ta o i s Dr w)(kv:nD w u dl)(hb:b<0):
 Calls Tryz.prog 93 #[aO i.cb,.agg #[ah b,u],ah level] w fun e w'=>e= .returned (.agg (dE 0 aJ false 9))∧ag az w w':=by
 have th:decide (b<0)=true:=decide_eq_true hb;obtain⟨A,cp,rfl,hle,hmax,gj⟩:=kv;have tG:=ae gj;have RZ:=ae hmax;obtain⟨lv,dv,h⟩:=h;have HW:=ae fun(g:Nat) (hg:w.heap.size≤g)=>h.Kr hg
 have HB:=ae<|Box.fresh w 102 #[ah b,.slice A dl.length cp];have HO:=ae<|(ag.aj az w).alloc (.cells #[ah b,.slice A dl.length cp] 102);have H:=ae<|h.keep HO;have Q7:=ae h.right.p3;clear gj hmax hle h hb
 go_enter Tryz.func93,Tryz.ntmps93
 go_upto_region 1 with fail;change Code.wp _ _ _ _ ((w.alloc (.cells #[ah b,.slice A dl.length cp] 102)).alloc (.cells (dE 0 aJ false 0) 165));have hsz:(w.alloc (.cells #[ah b,.slice A dl.length cp] 102)).heap.size=w.heap.size+1:=World.size_alloc ..;generalize w.alloc (.cells #[ah b,.slice A dl.length cp] 102)=W0 at *;obtain⟨fb,gu⟩:∃fb,fb=w.heap.size:=⟨_,rfl⟩;have vG:=aB (w.heap.size≤fb) (Nat.le_of_eq gu.symm);rw[←gu]at HB hsz ⊢;clear gu;have aR:ag az W0 (W0.alloc (.cells (dE 0 aJ false 0) 165)):=(ag.aj az W0).alloc _;have b5:=ae<|Box.fresh W0 165 (dE 0 aJ false 0);have k6:=ae<|aR.aq HB id;have aX:=ae<|HO.trans aR;have H1:=ae<|H.keep aR;clear aR HB HO H;generalize W0.alloc (.cells (dE 0 aJ false 0) 165)=W1 at *;rw[hsz]at b5;clear hsz;have eQ:=ae (show w.heap.size≤fb+1 by have:=vG.out;omega);generalize fb+1=rb at *;have k1:aw W1.drew fb 0 b:=k6.af rfl;have k3:aw W1.drew i.cb 2 (c.f 2):=ng H1.aq aD;refine dU (fun w':World=>aw w' fb 0 b∧aw w' i.cb 2 (c.f 2)) 12 fun aH=>?_
 refine yd [0,1,2,3,4,5,6,7,8,9,10,11] ?_;refine cG ?_;clear aH k1 k3;go_upto_region 2 with fail;have iw:=aB (Box W1.drew rb 165 (dE 0 aJ false 0)) (b5);have lG:=aB (Box W1.drew fb 102 _) (k6);have bf:=ae aX.drew;have H2:=ae<|H1.keep ((ag.aj az W1).drew);clear b5 k6 aX H1;generalize W1.drew=W2 at *;go_wp2_with (refine fJ (dE 0 aJ false 9) iw (jd _ _ _ _ _ _) ?_);refine bodyPost_ret (results_cell_row rfl _ _ rb _ (dE 0 aJ false 9) (0,0) _ rfl (iw.au _) Tryz.underlying165 rfl bZ) rfl ?_;exact⟨rfl,bf.au (.inr eQ) _⟩
theorem Jb {b:Int}{dl:List Int}{u:Value}{level:Int}(h:ta o i s Dr w)(kv:nD w u dl)(hb:0≤b)(dX:c.f 2≤b):
 Calls Tryz.prog 93 #[aO i.cb,.agg #[ah b,u],ah level] w fun e w'=>e= .returned (.agg (dE 0 aJ false 9))∧ag az w w':=by
 have th:decide (b<0)=false:=decide_eq_false ao;have JJ:decide (c.f 2≤b)=true:=decide_eq_true dX;obtain⟨A,cp,rfl,hle,hmax,gj⟩:=kv;have tG:=ae gj;have RZ:=ae hmax;obtain⟨lv,dv,h⟩:=h;have HW:=ae fun(g:Nat) (hg:w.heap.size≤g)=>h.Kr hg
 have HB:=ae<|Box.fresh w 102 #[ah b,.slice A dl.length cp];have HO:=ae<|(ag.aj az w).alloc (.cells #[ah b,.slice A dl.length cp] 102);have H:=ae<|h.keep HO;have Q7:=ae h.right.p3;clear gj hmax hle h hb dX
 go_enter Tryz.func93,Tryz.ntmps93
 go_upto_region 1 with fail;change Code.wp _ _ _ _ ((w.alloc (.cells #[ah b,.slice A dl.length cp] 102)).alloc (.cells (dE 0 aJ false 0) 165));have hsz:(w.alloc (.cells #[ah b,.slice A dl.length cp] 102)).heap.size=w.heap.size+1:=World.size_alloc ..;generalize w.alloc (.cells #[ah b,.slice A dl.length cp] 102)=W0 at *;obtain⟨fb,gu⟩:∃fb,fb=w.heap.size:=⟨_,rfl⟩;have vG:=aB (w.heap.size≤fb) (Nat.le_of_eq gu.symm);rw[←gu]at HB hsz ⊢;clear gu;have aR:ag az W0 (W0.alloc (.cells (dE 0 aJ false 0) 165)):=(ag.aj az W0).alloc _;have b5:=ae<|Box.fresh W0 165 (dE 0 aJ false 0);have k6:=ae<|aR.aq HB id;have aX:=ae<|HO.trans aR;have H1:=ae<|H.keep aR;clear aR HB HO H;generalize W0.alloc (.cells (dE 0 aJ false 0) 165)=W1 at *;rw[hsz]at b5;clear hsz;have eQ:=ae (show w.heap.size≤fb+1 by have:=vG.out;omega);generalize fb+1=rb at *;have k1:aw W1.drew fb 0 b:=k6.af rfl;have k3:aw W1.drew i.cb 2 (c.f 2):=ng H1.aq aD;refine dU (fun w':World=>aw w' fb 0 b∧aw w' i.cb 2 (c.f 2)) 12 fun aH=>?_
 refine bX [0,1,2,3,4,5,6,7,8,9,10,11] ?_;refine cG ?_;clear aH k1 k3;go_upto_region 2 with fail;have iw:=aB (Box W1.drew rb 165 (dE 0 aJ false 0)) (b5);have lG:=aB (Box W1.drew fb 102 _) (k6);have bf:=ae aX.drew;have H2:=ae<|H1.keep ((ag.aj az W1).drew);clear b5 k6 aX H1;generalize W1.drew=W2 at *;go_wp2_with (refine fJ (dE 0 aJ false 9) iw (jd _ _ _ _ _ _) ?_);refine bodyPost_ret (results_cell_row rfl _ _ rb _ (dE 0 aJ false 9) (0,0) _ rfl (iw.au _) Tryz.underlying165 rfl bZ) rfl ?_;exact⟨rfl,bf.au (.inr eQ) _⟩
theorem Jd {b:Int}{dl:List Int}{u:Value}{level:Int}(h:ta o i s Dr w)(kv:nD w u dl)(hb:0≤b)(dX:b<c.f 2)(hl:(dl.length:Int)≠c.f 3):
 Calls Tryz.prog 93 #[aO i.cb,.agg #[ah b,u],ah level] w fun e w'=>e= .returned (.agg (dE 0 aJ false 10))∧ag az w w':=by
 have th:decide (b<0)=false:=decide_eq_false ao;have JJ:decide (c.f 2≤b)=false:=decide_eq_false ao;have hx3:((dl.length:Int) != c.f 3)=true:=by rw[bne_iff_ne];exact hl
 obtain⟨A,cp,rfl,hle,hmax,gj⟩:=kv;have tG:=ae gj;have RZ:=ae hmax;obtain⟨lv,dv,h⟩:=h;have HW:=ae fun(g:Nat) (hg:w.heap.size≤g)=>h.Kr hg
 have HB:=ae<|Box.fresh w 102 #[ah b,.slice A dl.length cp];have HO:=ae<|(ag.aj az w).alloc (.cells #[ah b,.slice A dl.length cp] 102);have H:=ae<|h.keep HO;have Q7:=ae h.right.p3;clear gj hmax hle h hb dX hl
 go_enter Tryz.func93,Tryz.ntmps93
 go_upto_region 1 with fail;change Code.wp _ _ _ _ ((w.alloc (.cells #[ah b,.slice A dl.length cp] 102)).alloc (.cells (dE 0 aJ false 0) 165));have hsz:(w.alloc (.cells #[ah b,.slice A dl.length cp] 102)).heap.size=w.heap.size+1:=World.size_alloc ..;generalize w.alloc (.cells #[ah b,.slice A dl.length cp] 102)=W0 at *;obtain⟨fb,gu⟩:∃fb,fb=w.heap.size:=⟨_,rfl⟩;have vG:=aB (w.heap.size≤fb) (Nat.le_of_eq gu.symm);rw[←gu]at HB hsz ⊢;clear gu;have aR:ag az W0 (W0.alloc (.cells (dE 0 aJ false 0) 165)):=(ag.aj az W0).alloc _;have b5:=ae<|Box.fresh W0 165 (dE 0 aJ false 0);have k6:=ae<|aR.aq HB id;have aX:=ae<|HO.trans aR;have H1:=ae<|H.keep aR;clear aR HB HO H;generalize W0.alloc (.cells (dE 0 aJ false 0) 165)=W1 at *;rw[hsz]at b5;clear hsz;have eQ:=ae (show w.heap.size≤fb+1 by have:=vG.out;omega);generalize fb+1=rb at *;have k1:aw W1.drew fb 0 b:=k6.af rfl;have k3:aw W1.drew i.cb 2 (c.f 2):=ng H1.aq aD;refine dU (fun w':World=>aw w' fb 0 b∧aw w' i.cb 2 (c.f 2)) 12 fun aH=>?_
 refine bX [0,1,2,3,4,5,6,7,8,9,10,11] ?_;refine cG ?_;clear aH k1 k3;go_upto_region 3 with fail;have iw:=aB (Box W1.drew rb 165 (dE 0 aJ false 0)) (b5);have lG:=aB (Box W1.drew fb 102 _) (k6);have bf:=ae aX.drew;have H2:=ae<|H1.keep ((ag.aj az W1).drew);clear b5 k6 aX H1;generalize W1.drew=W2 at *;have k1:aE W2.drew fb 1 (.slice A dl.length cp):=lG.af rfl;have k3:aw W2.drew i.cb 3 (c.f 3):=ng H2.aq aD;refine dU (fun w':World=>aE w' fb 1 (.slice A dl.length cp)∧aw w' i.cb 3 (c.f 3)) 8 fun aH=>?_
 refine bX [0,1,2,3,4,5,6,7] ?_;refine cG ?_;clear aH k1 k3;go_upto_region 4 with fail;have iR:=aB (Box W2.drew rb 165 (dE 0 aJ false 0)) (iw);have jE:=aB (Box W2.drew fb 102 _) (lG);have bn:=ae bf.drew;have H3:=ae<|H2.keep ((ag.aj az W2).drew);clear iw lG bf H2;generalize W2.drew=W3 at *;go_wp2_with (refine fJ (dE 0 aJ false 10) iR (jd _ _ _ _ _ _) ?_);refine bodyPost_ret (results_cell_row rfl _ _ rb _ (dE 0 aJ false 10) (0,0) _ rfl (iR.au _) Tryz.underlying165 rfl bZ) rfl ?_;exact⟨rfl,bn.au (.inr eQ) _⟩
theorem Ln {b:Int}{dl:List Int}{u:Value}{level:Int}(h:ta o i s Dr w)(kv:nD w u dl)(hI:o.Inv s)(hb:0≤b)(dX:b<c.f 2)(hl:(dl.length:Int)=c.f 3)(ht:fj c k b level=false):
 Calls Tryz.prog 93 #[aO i.cb,.agg #[ah b,u],ah level] w fun e w'=>e= .returned (.agg (dE 0 aJ false 5))∧ag az w w':=by
 have th:decide (b<0)=false:=decide_eq_false ao;have JJ:decide (c.f 2≤b)=false:=decide_eq_false ao;have hx3:((dl.length:Int) != c.f 3)=false:=by rw[bne_eq_false_iff_eq];exact hl
 have HT:=ae fun(W:World) (hC:ta o i s Dr W)=>by have:=zc b level hC hI;rw[ht]at this;exact this
 obtain⟨A,cp,rfl,hle,hmax,gj⟩:=kv;have tG:=ae gj;have RZ:=ae hmax;obtain⟨lv,dv,h⟩:=h;have HW:=ae fun(g:Nat) (hg:w.heap.size≤g)=>h.Kr hg
 have HB:=ae<|Box.fresh w 102 #[ah b,.slice A dl.length cp];have HO:=ae<|(ag.aj az w).alloc (.cells #[ah b,.slice A dl.length cp] 102);have H:=ae<|h.keep HO;have Q7:=ae h.right.p3;clear gj hmax hle h hb dX hl hI ht
 go_enter Tryz.func93,Tryz.ntmps93
 go_upto_region 1 with fail;change Code.wp _ _ _ _ ((w.alloc (.cells #[ah b,.slice A dl.length cp] 102)).alloc (.cells (dE 0 aJ false 0) 165));have hsz:(w.alloc (.cells #[ah b,.slice A dl.length cp] 102)).heap.size=w.heap.size+1:=World.size_alloc ..;generalize w.alloc (.cells #[ah b,.slice A dl.length cp] 102)=W0 at *;obtain⟨fb,gu⟩:∃fb,fb=w.heap.size:=⟨_,rfl⟩;have vG:=aB (w.heap.size≤fb) (Nat.le_of_eq gu.symm);rw[←gu]at HB hsz ⊢;clear gu;have aR:ag az W0 (W0.alloc (.cells (dE 0 aJ false 0) 165)):=(ag.aj az W0).alloc _;have b5:=ae<|Box.fresh W0 165 (dE 0 aJ false 0);have k6:=ae<|aR.aq HB id;have aX:=ae<|HO.trans aR;have H1:=ae<|H.keep aR;clear aR HB HO H;generalize W0.alloc (.cells (dE 0 aJ false 0) 165)=W1 at *;rw[hsz]at b5;clear hsz;have eQ:=ae (show w.heap.size≤fb+1 by have:=vG.out;omega);generalize fb+1=rb at *;have k1:aw W1.drew fb 0 b:=k6.af rfl;have k3:aw W1.drew i.cb 2 (c.f 2):=ng H1.aq aD;refine dU (fun w':World=>aw w' fb 0 b∧aw w' i.cb 2 (c.f 2)) 12 fun aH=>?_
 refine bX [0,1,2,3,4,5,6,7,8,9,10,11] ?_;refine cG ?_;clear aH k1 k3;go_upto_region 3 with fail;have iw:=aB (Box W1.drew rb 165 (dE 0 aJ false 0)) (b5);have lG:=aB (Box W1.drew fb 102 _) (k6);have bf:=ae aX.drew;have H2:=ae<|H1.keep ((ag.aj az W1).drew);clear b5 k6 aX H1;generalize W1.drew=W2 at *;have k1:aE W2.drew fb 1 (.slice A dl.length cp):=lG.af rfl;have k3:aw W2.drew i.cb 3 (c.f 3):=ng H2.aq aD;refine dU (fun w':World=>aE w' fb 1 (.slice A dl.length cp)∧aw w' i.cb 3 (c.f 3)) 8 fun aH=>?_
 refine bX [0,1,2,3,4,5,6,7] ?_;refine cG ?_;clear aH k1 k3;go_upto_region 5 with fail;have iR:=aB (Box W2.drew rb 165 (dE 0 aJ false 0)) (iw);have jE:=aB (Box W2.drew fb 102 _) (lG);have bn:=ae bf.drew;have H3:=ae<|H2.keep ((ag.aj az W2).drew);clear iw lG bf H2;generalize W2.drew=W3 at *;have y0:aw W3 fb 0 b:=jE.af rfl;go_upto_region 6 with(go_at_call 121;refine(HT W3 ⟨_,_,H3⟩).mono ?_;rintro e W4 ⟨rfl,cI⟩);have jc:=ae<|cI.aq iR id;have bK:=ae<|bn.trans cI;go_wp2_with (refine fJ (dE 0 aJ false 5) jc (jd _ _ _ _ _ _) ?_);refine bodyPost_ret (results_cell_row rfl _ _ rb _ (dE 0 aJ false 5) (0,0) _ rfl (jc.au _) Tryz.underlying165 rfl bZ) rfl ?_;exact⟨rfl,bK.au (.inr eQ) _⟩
theorem fp{P:Prop}(h:P:=by rw[gq]):P:=h
theorem FN {n:Nat}{dl:List Int}{u:Value}{level:Int}(h:ta o i s Dr w)(hI:o.Inv s)(h2:(n:Int)<c.f 2)(hl:(dl.length:Int)=c.f 3)(ht:fj c k n level=true)(Qf:K.sp.takes n)(cw:K.sp.eE s<bN)(kv:nD w u dl)
 (hu:∀j,aK u j→¬ke o i j) (hg:(K.sp.add s n).2.2=false):
 Calls Tryz.prog 93 #[aO i.cb,.agg #[ah n,u],ah level] w (ML o i s Dr n dl w):=by
 have th:decide ((n:Int)<0)=false:=decide_eq_false ao;have JJ:decide (c.f 2≤(n:Int))=false:=decide_eq_false ao;have hx3:((dl.length:Int) != c.f 3)=false:=by rw[bne_eq_false_iff_eq];exact hl
 have HN:=ae (show n<32 by obtain⟨lv,dv,h⟩:=h;have:=h.right.p2;omega);have HL:=ae hl;have HUS:=ae hu;have HT:=ae fun(W:World) (hC:ta o i s Dr W)=>by have:=zc (n:Int) level hC hI;rw[ht]at this;exact this
 have HU:=ae fun(W:World) (lv:Value) (dv:Nat→Value) (hC:iW o i s lv dv Dr W)=>o.add hC.ord hI hC.aq hC.Q4.2 (Int.natCast_nonneg n) (show(n:Int)<64 by have:=HN.out;omega) Qf cw
 have HG:=ae hg;obtain⟨A,cp,rfl,hle,hmax,gj⟩:=kv;have tG:=ae gj;have RZ:=ae hmax;obtain⟨lv,dv,h⟩:=h;have HW:=ae fun(g:Nat) (hg:w.heap.size≤g)=>h.Kr hg
 have HB:=ae<|Box.fresh w 102 #[ah n,.slice A dl.length cp];have HO:=ae<|(ag.aj az w).alloc (.cells #[ah n,.slice A dl.length cp] 102);have H:=ae<|h.keep HO;have Q7:=ae h.right.p3;clear gj hmax hle h hl hI h2 ht Qf cw hg hu
 go_enter Tryz.func93,Tryz.ntmps93
 go_upto_region 1 with fail;change Code.wp _ _ _ _ ((w.alloc (.cells #[ah n,.slice A dl.length cp] 102)).alloc (.cells (dE 0 aJ false 0) 165));have hsz:(w.alloc (.cells #[ah n,.slice A dl.length cp] 102)).heap.size=w.heap.size+1:=World.size_alloc ..;generalize w.alloc (.cells #[ah n,.slice A dl.length cp] 102)=W0 at *;obtain⟨fb,gu⟩:∃fb,fb=w.heap.size:=⟨_,rfl⟩;have vG:=aB (w.heap.size≤fb) (Nat.le_of_eq gu.symm);rw[←gu]at HB hsz ⊢;clear gu;have aR:ag az W0 (W0.alloc (.cells (dE 0 aJ false 0) 165)):=(ag.aj az W0).alloc _;have b5:=ae<|Box.fresh W0 165 (dE 0 aJ false 0);have k6:=ae<|aR.aq HB id;have aX:=ae<|HO.trans aR;have H1:=ae<|H.keep aR;clear aR HB HO H;generalize W0.alloc (.cells (dE 0 aJ false 0) 165)=W1 at *;rw[hsz]at b5;clear hsz;have eQ:=ae (show w.heap.size≤fb+1 by have:=vG.out;omega);generalize fb+1=rb at *;have k1:aw W1.drew fb 0 n:=k6.af rfl;have k3:aw W1.drew i.cb 2 (c.f 2):=ng H1.aq aD;refine dU (fun w':World=>aw w' fb 0 n∧aw w' i.cb 2 (c.f 2)) 12 fun aH=>?_
 refine bX [0,1,2,3,4,5,6,7,8,9,10,11] ?_;refine cG ?_;clear aH k1 k3;go_upto_region 3 with fail;have iw:=aB (Box W1.drew rb 165 (dE 0 aJ false 0)) (b5);have lG:=aB (Box W1.drew fb 102 _) (k6);have bf:=ae aX.drew;have H2:=ae<|H1.keep ((ag.aj az W1).drew);clear b5 k6 aX H1;generalize W1.drew=W2 at *;have k1:aE W2.drew fb 1 (.slice A dl.length cp):=lG.af rfl;have k3:aw W2.drew i.cb 3 (c.f 3):=ng H2.aq aD;refine dU (fun w':World=>aE w' fb 1 (.slice A dl.length cp)∧aw w' i.cb 3 (c.f 3)) 8 fun aH=>?_
 refine bX [0,1,2,3,4,5,6,7] ?_;refine cG ?_;clear aH k1 k3;go_upto_region 5 with fail;have iR:=aB (Box W2.drew rb 165 (dE 0 aJ false 0)) (iw);have jE:=aB (Box W2.drew fb 102 _) (lG);have bn:=ae bf.drew;have H3:=ae<|H2.keep ((ag.aj az W2).drew);clear iw lG bf H2;generalize W2.drew=W3 at *;have y0:aw W3 fb 0 n:=jE.af rfl;go_upto_region 7 with(go_at_call 121;refine(HT W3 ⟨_,_,H3⟩).mono ?_;rintro e W4 ⟨rfl,cI⟩);have jc:=ae<|cI.aq iR id;have kg:=ae<|cI.aq jE id;have bK:=ae<|bn.trans cI;have H4:=ae<|H3.keep cI;clear cI y0 iR jE bn H3 th JJ hx3;have y0:aw W4 fb 0 n:=kg.af rfl;generalize ou:decide ((n:Int)∈K.sp.all s)=was at *;have yJ:=ae ou;clear ou;rw[HG.out]at HU;generalize Qe:(K.sp.add s n).2.1=vv at *;have HVV:=ae Qe;clear Qe;generalize ZB:(K.sp.add s n).1=s2 at *;have aa0:=ae ZB;clear ZB;go_upto_region 8 with(first|(go_at_call 82;refine(HU W4 _ _ H4).mono ?_;rintro e W5 ⟨A5,n5,m5,lv5,rfl,h1,h2,h3⟩;have H5:=ae<|H4.Aj h1 h2 h3;have iz:=ae<|h3.aq jc fun e=>HW rb eQ (NP.uT e);have iT:=ae<|h3.aq kg fun e=>HW fb vG (NP.uT e);have bM:=ae<|(bK.mono (S':=ke o i) fun _ h=>h.elim).trans (h3.mono fun j hj=>.inl (NP.uT hj));clear h1 h2 h3)|(refine fJ (eU (.slice A5 n5 m5) vv false was 0) (Box.fresh W5 148 (eU aJ 0 false false 0)) (k8 _ _ _ _ _ _ _) ?_));have bT:ag az W5 ((W5.alloc (.cells (eU aJ 0 false false 0) 148)).setRow W5.heap.size (eU (.slice A5 n5 m5) vv false was 0)):=((ag.aj az W5).alloc _).au (.inr (dm _)) _;have Ai:=ae<|(Box.fresh W5 148 (eU aJ 0 false false 0)).au (eU (.slice A5 n5 m5) vv false was 0);have tz:=ae<|bT.aq iz id;have nR:=ae<|bT.aq iT id;have cZ:=ae<|bM.da bT;have H6:=ae<|H5.keep bT;have gz:=aB (w.heap.size≤W5.heap.size) (bM.size);clear bT iz iT bM H5 jc kg bK H4 y0 HU;change Code.wp _ _ _ _ ((W5.alloc (.cells (eU aJ 0 false false 0) 148)).setRow W5.heap.size (eU (.slice A5 n5 m5) vv false was 0));generalize(W5.alloc (.cells (eU aJ 0 false false 0) 148)).setRow W5.heap.size (eU (.slice A5 n5 m5) vv false was 0)=W6 at *;generalize W5.heap.size=eb at *;have y2:aE W6 eb 2 (.bool false):=Ai.af rfl;go_upto_region 9 with(refine fJ (dE 0 aJ false 0) (Box.fresh W6 165 (dE 0 aJ false 0)) (jd _ _ _ _ _ _) ?_);have dL:ag az W6 ((W6.alloc (.cells (dE 0 aJ false 0) 165)).setRow W6.heap.size (dE 0 aJ false 0)):=((ag.aj az W6).alloc _).au (.inr (dm _)) _;have oD:=ae<|(Box.fresh W6 165 (dE 0 aJ false 0)).au (dE 0 aJ false 0);have zE:=ae<|dL.aq tz id;have UO:=ae<|dL.aq nR id;have Bk:=ae<|dL.aq Ai id;have fC:=ae<|cZ.da dL;have H7:=ae<|H6.keep dL;have jX:=aB (w.heap.size≤W6.heap.size) (cZ.size);have HRT:=aB (rb≠W6.heap.size) (Nat.ne_of_lt tz.lt);clear dL tz nR cZ H6 Ai y2;change Code.wp _ _ _ _ ((W6.alloc (.cells (dE 0 aJ false 0) 165)).setRow W6.heap.size (dE 0 aJ false 0));generalize(W6.alloc (.cells (dE 0 aJ false 0) 165)).setRow W6.heap.size (dE 0 aJ false 0)=W7 at *
 generalize W6.heap.size=tb at *;have y2:aE W7 eb 2 (.bool false):=Bk.af rfl;go_upto_region 11 with fail;clear y2;generalize W7=W8 at *;have Bf:=zE;have EZ:=UO;have DJ:=oD;have ix:=fC;have H8:=H7;clear zE UO oD fC H7;have HSR:=ae<|tG.aA ix fun g' o' e' _ hw=>HUS g' (by rw[e'];exact aG.2 rfl) hw;have y1:aE W8 fb 1 (.slice A dl.length cp):=EZ.af rfl;have bU:=ae (show([]:List Value).length+(bytes dl).length≤maxLen by rw[gq];have:=HL.out;have:=Q7.out;unfold maxLen;simp;omega);have cO:=ae (show(([]:List Value).length+(bytes dl).length)*1≤140737488355328 by rw[gq];have:=HL.out;have:=Q7.out;simp;omega);go_upto_region 13 with(at_builtin;refine cy _ rfl (.tmp 63) (.tmp 65) 35 5 rfl nr rfl Tryz.underlying35 aJ [] rfl (Row.vK _ _) A dl.length cp (bytes dl) rfl fp HSR (mW dl) bU cO ?_;intro v' W9 Dz nN nO _;have Q6:=ae Dz;have kf:=ae<|nN.mono (S':=az) fun j hj=>(a7 hj).elim;have yj:=ae nO;clear Dz nN nO);rw[List.nil_append]at Q6;have jO:lu W9 v' dl:=⟨Q6,by have:=HL.out;have:=Q7.out;omega⟩;obtain⟨A2,c2,e2⟩:=jO.shape;subst e2;have zL:=aB (∀j,aK (.slice A2 dl.length c2) j→o.B≤j) (fun j hj=>by
  rcases yj j hj with h|h
  ·exact(a7 h).elim
  ·have:=H8.bs;omega)
 have gW:=ae jO;have H9:=ae<|H8.keep kf;have HF9:=ae<|kf.aq EZ id;have yp:=ae<|kf.aq Bf id;have Qs:=ae<|kf.aq DJ id;have Qo:=ae<|ix.da kf;clear jO y1 EZ H8 Bf DJ ix HSR bU cO;have k1:aw W9.drew fb 0 n:=HF9.af rfl;have k3:aE W9.drew i.cb 21 (aU i.db 32 i.dc):=H9.yh;refine dU (fun w':World=>aw w' fb 0 n∧aE w' i.cb 21 (aU i.db 32 i.dc)) 7 fun aH=>?_
 refine bX [0,1,2,3,4,5,6] ?_;refine cG ?_;have x2:aE W9.drew i.db n (dv n):=(H9.cd HN).1;have x3:W9.drew.frozen? ⟨i.db,n,none⟩=false:=(H9.cd HN).2;have wJ:(0:Int)≤(n:Int):=Int.natCast_nonneg n;have sS:(n:Int)<32:=by have:=HN.out;omega
 clear aH k1 k3;go_upto_region 14 with fail;have iN:ag (ke o i) W9 (W9.drew.setCell ⟨i.db,n,none⟩ (.slice A2 dl.length c2)):=((ag.aj (ke o i) W9).drew).trans ag.db;have VM:ag (ar i.db) W9 (W9.drew.setCell ⟨i.db,n,none⟩ (.slice A2 dl.length c2)):=((ag.aj (ar i.db) W9).drew).setCell (p:=⟨i.db,n,none⟩) (.inl (show ar i.db i.db from rfl)) _;have wO:=ae<|iW.acm (w:=W9.drew) (H9.keep ((ag.aj az W9).drew)) HN (gW.keep ((ag.aj az W9).drew)) zL;have Fa:=ae<|iN.aq Qs (HW tb jX);have GV:=ae<|iN.aq yp (HW rb eQ);have kh:=ae<|Qo.trans iN;change Code.wp _ _ _ _ (W9.drew.setCell ⟨i.db,n,none⟩ (.slice A2 dl.length c2));clear iN VM x2 x3 wJ sS Qs yp Qo H9 HF9;generalize W9.drew.setCell ⟨i.db,n,none⟩ (.slice A2 dl.length c2)=ga at *;go_wp2_with (first|(refine fH (dE 0 aJ false 0) Fa Tryz.underlying165 ?_)|(refine fJ (dE 0 aJ false 0) GV (jd _ _ _ _ _ _) ?_));refine bodyPost_ret (results_cell_row rfl _ _ rb _ (dE 0 aJ false 0) (0,0) _ rfl (GV.au _) Tryz.underlying165 rfl bZ) rfl ?_;have iK:ag (ar rb) ga (ga.setRow rb (dE 0 aJ false 0)):=(ag.aj (ar rb) ga).au (.inl (show ar rb rb from rfl)) _;unfold ML;rw[HG.out];rw[if_neg aD,if_neg aD,aa0.out];exact⟨_,rfl,lu.nil _,fun j hj=>(a7 hj).elim,⟨_,_,wO.mK GV aD aD (HW rb eQ) iK⟩,kh.au (.inr eQ) _⟩
theorem FO {n:Nat}{dl:List Int}{u:Value}{level:Int}(h:ta o i s Dr w)(hI:o.Inv s)(h2:(n:Int)<c.f 2)(hl:(dl.length:Int)=c.f 3)(ht:fj c k n level=true)(Qf:K.sp.takes n)(cw:K.sp.eE s<bN)(kv:nD w u dl)
 (hu:∀j,aK u j→¬ke o i j) (hg:(K.sp.add s n).2.2=true) {m:Nat} (hm:(K.sp.add s n).2.1=(m:Int)) (acJ:m<32):
 Calls Tryz.prog 93 #[aO i.cb,.agg #[ah n,u],ah level] w (ML o i s Dr n dl w):=by
 have th:decide ((n:Int)<0)=false:=decide_eq_false ao;have JJ:decide (c.f 2≤(n:Int))=false:=decide_eq_false ao;have hx3:((dl.length:Int) != c.f 3)=false:=by rw[bne_eq_false_iff_eq];exact hl
 have HN:=ae (show n<32 by obtain⟨lv,dv,h⟩:=h;have:=h.right.p2;omega);have HL:=ae hl;have HUS:=ae hu;have HT:=ae fun(W:World) (hC:ta o i s Dr W)=>by have:=zc (n:Int) level hC hI;rw[ht]at this;exact this
 have HU:=ae fun(W:World) (lv:Value) (dv:Nat→Value) (hC:iW o i s lv dv Dr W)=>o.add hC.ord hI hC.aq hC.Q4.2 (Int.natCast_nonneg n) (show(n:Int)<64 by have:=HN.out;omega) Qf cw
 have HG:=ae hg;have HM:=ae hm;have aa7:=ae acJ;obtain⟨A,cp,rfl,hle,hmax,gj⟩:=kv;have tG:=ae gj;have RZ:=ae hmax;obtain⟨lv,dv,h⟩:=h;have HW:=ae fun(g:Nat) (hg:w.heap.size≤g)=>h.Kr hg
 have HB:=ae<|Box.fresh w 102 #[ah n,.slice A dl.length cp];have HO:=ae<|(ag.aj az w).alloc (.cells #[ah n,.slice A dl.length cp] 102);have H:=ae<|h.keep HO;have Q7:=ae h.right.p3;clear gj hmax hle h hl hI h2 ht Qf cw hg hu hm acJ
 go_enter Tryz.func93,Tryz.ntmps93
 go_upto_region 1 with fail;change Code.wp _ _ _ _ ((w.alloc (.cells #[ah n,.slice A dl.length cp] 102)).alloc (.cells (dE 0 aJ false 0) 165));have hsz:(w.alloc (.cells #[ah n,.slice A dl.length cp] 102)).heap.size=w.heap.size+1:=World.size_alloc ..;generalize w.alloc (.cells #[ah n,.slice A dl.length cp] 102)=W0 at *;obtain⟨fb,gu⟩:∃fb,fb=w.heap.size:=⟨_,rfl⟩;have vG:=aB (w.heap.size≤fb) (Nat.le_of_eq gu.symm);rw[←gu]at HB hsz ⊢;clear gu;have aR:ag az W0 (W0.alloc (.cells (dE 0 aJ false 0) 165)):=(ag.aj az W0).alloc _;have b5:=ae<|Box.fresh W0 165 (dE 0 aJ false 0);have k6:=ae<|aR.aq HB id;have aX:=ae<|HO.trans aR;have H1:=ae<|H.keep aR;clear aR HB HO H;generalize W0.alloc (.cells (dE 0 aJ false 0) 165)=W1 at *;rw[hsz]at b5;clear hsz;have eQ:=ae (show w.heap.size≤fb+1 by have:=vG.out;omega);generalize fb+1=rb at *;have k1:aw W1.drew fb 0 n:=k6.af rfl;have k3:aw W1.drew i.cb 2 (c.f 2):=ng H1.aq aD;refine dU (fun w':World=>aw w' fb 0 n∧aw w' i.cb 2 (c.f 2)) 12 fun aH=>?_
 refine bX [0,1,2,3,4,5,6,7,8,9,10,11] ?_;refine cG ?_;clear aH k1 k3;go_upto_region 3 with fail;have iw:=aB (Box W1.drew rb 165 (dE 0 aJ false 0)) (b5);have lG:=aB (Box W1.drew fb 102 _) (k6);have bf:=ae aX.drew;have H2:=ae<|H1.keep ((ag.aj az W1).drew);clear b5 k6 aX H1;generalize W1.drew=W2 at *;have k1:aE W2.drew fb 1 (.slice A dl.length cp):=lG.af rfl;have k3:aw W2.drew i.cb 3 (c.f 3):=ng H2.aq aD;refine dU (fun w':World=>aE w' fb 1 (.slice A dl.length cp)∧aw w' i.cb 3 (c.f 3)) 8 fun aH=>?_
 refine bX [0,1,2,3,4,5,6,7] ?_;refine cG ?_;clear aH k1 k3;go_upto_region 5 with fail;have iR:=aB (Box W2.drew rb 165 (dE 0 aJ false 0)) (iw);have jE:=aB (Box W2.drew fb 102 _) (lG);have bn:=ae bf.drew;have H3:=ae<|H2.keep ((ag.aj az W2).drew);clear iw lG bf H2;generalize W2.drew=W3 at *;have y0:aw W3 fb 0 n:=jE.af rfl;go_upto_region 7 with(go_at_call 121;refine(HT W3 ⟨_,_,H3⟩).mono ?_;rintro e W4 ⟨rfl,cI⟩);have jc:=ae<|cI.aq iR id;have kg:=ae<|cI.aq jE id;have bK:=ae<|bn.trans cI;have H4:=ae<|H3.keep cI;clear cI y0 iR jE bn H3 th JJ hx3;have y0:aw W4 fb 0 n:=kg.af rfl;generalize ou:decide ((n:Int)∈K.sp.all s)=was at *;have yJ:=ae ou;clear ou;rw[HG.out]at HU;rw[HM.out]at HU;generalize ZB:(K.sp.add s n).1=s2 at *;have aa0:=ae ZB;clear ZB;go_upto_region 8 with(first|(go_at_call 82;refine(HU W4 _ _ H4).mono ?_;rintro e W5 ⟨A5,n5,m5,lv5,rfl,h1,h2,h3⟩;have H5:=ae<|H4.Aj h1 h2 h3;have iz:=ae<|h3.aq jc fun e=>HW rb eQ (NP.uT e);have iT:=ae<|h3.aq kg fun e=>HW fb vG (NP.uT e);have bM:=ae<|(bK.mono (S':=ke o i) fun _ h=>h.elim).trans (h3.mono fun j hj=>.inl (NP.uT hj));clear h1 h2 h3)|(refine fJ (eU (.slice A5 n5 m5) m true was 0) (Box.fresh W5 148 (eU aJ 0 false false 0)) (k8 _ _ _ _ _ _ _) ?_));have bT:ag az W5 ((W5.alloc (.cells (eU aJ 0 false false 0) 148)).setRow W5.heap.size (eU (.slice A5 n5 m5) m true was 0)):=((ag.aj az W5).alloc _).au (.inr (dm _)) _;have Ai:=ae<|(Box.fresh W5 148 (eU aJ 0 false false 0)).au (eU (.slice A5 n5 m5) m true was 0);have tz:=ae<|bT.aq iz id;have nR:=ae<|bT.aq iT id;have cZ:=ae<|bM.da bT;have H6:=ae<|H5.keep bT;have gz:=aB (w.heap.size≤W5.heap.size) (bM.size);clear bT iz iT bM H5 jc kg bK H4 y0 HU;change Code.wp _ _ _ _ ((W5.alloc (.cells (eU aJ 0 false false 0) 148)).setRow W5.heap.size (eU (.slice A5 n5 m5) m true was 0));generalize(W5.alloc (.cells (eU aJ 0 false false 0) 148)).setRow W5.heap.size (eU (.slice A5 n5 m5) m true was 0)=W6 at *;generalize W5.heap.size=eb at *;have y2:aE W6 eb 2 (.bool true):=Ai.af rfl;go_upto_region 9 with(refine fJ (dE 0 aJ true 0) (Box.fresh W6 165 (dE 0 aJ false 0)) (jd _ _ _ _ _ _) ?_);have dL:ag az W6 ((W6.alloc (.cells (dE 0 aJ false 0) 165)).setRow W6.heap.size (dE 0 aJ true 0)):=((ag.aj az W6).alloc _).au (.inr (dm _)) _;have oD:=ae<|(Box.fresh W6 165 (dE 0 aJ false 0)).au (dE 0 aJ true 0);have zE:=ae<|dL.aq tz id;have UO:=ae<|dL.aq nR id;have Bk:=ae<|dL.aq Ai id;have fC:=ae<|cZ.da dL;have H7:=ae<|H6.keep dL;have jX:=aB (w.heap.size≤W6.heap.size) (cZ.size);have HRT:=aB (rb≠W6.heap.size) (Nat.ne_of_lt tz.lt);clear dL tz nR cZ H6 Ai y2;change Code.wp _ _ _ _ ((W6.alloc (.cells (dE 0 aJ false 0) 165)).setRow W6.heap.size (dE 0 aJ true 0));generalize(W6.alloc (.cells (dE 0 aJ false 0) 165)).setRow W6.heap.size (dE 0 aJ true 0)=W7 at *
 generalize W6.heap.size=tb at *;have y2:aE W7 eb 2 (.bool true):=Bk.af rfl;go_upto_region 10 with fail;obtain⟨Ql,hdB⟩:=H7.ed m aa7;obtain⟨Am,cm,edm⟩:=Ql.shape;have k4:=(H7.cd aa7).1;rw[edm]at Ql hdB k4;have HDM:=ae Ql;have Vw:=ae hdB;clear Ql hdB edm;have k4:aE W7.drew i.db m (.slice Am (Dr m).length cm):=k4;have k1:aw W7.drew eb 1 m:=Bk.af rfl;have k3:aE W7.drew i.cb 21 (aU i.db 32 i.dc):=H7.yh;have hm0:(0:Int)≤(m:Int):=Int.natCast_nonneg m;have AA:(m:Int)<32:=by have:=aa7.out;omega
 refine dU (fun w':World=>aw w' eb 1 m∧aE w' i.cb 21 (aU i.db 32 i.dc)∧aE w' i.db m (.slice Am (Dr m).length cm)) 11 fun aH=>?_
 refine bX [0,1,2,3,4,5,6,7,8,9] ?_;refine cM 10 fun K hK=>?_
 go_simp;refine hK.out _ _ aH (fun aH=>?_);clear hK;refine CW ?_;refine cG ?_;clear aH k1 k3 k4 y2 hm0 AA;have sT:=aB (W7.drew.there tb 0 2) ((show Box W7.drew tb 165 _ from oD).there aD);go_upto_region 11 with(refine wpList_store_mid rfl 102 _ _ rfl tb 0 #[ah m,.slice Am (Dr m).length cm] rfl rfl sT bZ a6 ?_);have eT:ag (ar tb) W7 ((W7.drew.setCell ⟨tb,0,none⟩ (ah m)).setCell ⟨tb,1,none⟩ (.slice Am (Dr m).length cm)):=(((ag.aj (ar tb) W7).drew).setCell (p:=⟨tb,0,none⟩) (.inl (show ar tb tb from rfl)) _).setCell (p:=⟨tb,1,none⟩) (.inl (show ar tb tb from rfl)) _;have DJ:=aB (Box _ tb 165 (dE m (.slice Am (Dr m).length cm) true 0)) (((show Box W7.drew tb 165 _ from oD).store 0 (ah m)).store 1 (.slice Am (Dr m).length cm));have Bf:=ae<|eT.aq zE HRT;have EZ:=ae<|eT.aq UO (UO.off oD aD);have H8:=ae<|H7.mK oD aD aD (HW tb jX) eT;have ix:=ae<|fC.aC eT fun j hj=>.inr (by rw[show j=tb from hj];exact jX);have MD:=ae (HDM.aA eT fun j hj e=>by
  obtain⟨cs,hb⟩:=HDM.1.aq hj;exact(hb.off oD aD) e)
 change Code.wp _ _ _ _ ((W7.drew.setCell ⟨tb,0,none⟩ (ah m)).setCell ⟨tb,1,none⟩ (.slice Am (Dr m).length cm));clear eT sT oD zE UO fC H7 HDM Bk;generalize(W7.drew.setCell ⟨tb,0,none⟩ (ah m)).setCell ⟨tb,1,none⟩ (.slice Am (Dr m).length cm)=W8 at *;have HSR:=ae<|tG.aA ix fun g' o' e' _ hw=>HUS g' (by rw[e'];exact aG.2 rfl) hw;have y1:aE W8 fb 1 (.slice A dl.length cp):=EZ.af rfl;have bU:=ae (show([]:List Value).length+(bytes dl).length≤maxLen by rw[gq];have:=HL.out;have:=Q7.out;unfold maxLen;simp;omega);have cO:=ae (show(([]:List Value).length+(bytes dl).length)*1≤140737488355328 by rw[gq];have:=HL.out;have:=Q7.out;simp;omega);go_upto_region 13 with(at_builtin;refine cy _ rfl (.tmp 63) (.tmp 65) 35 5 rfl nr rfl Tryz.underlying35 aJ [] rfl (Row.vK _ _) A dl.length cp (bytes dl) rfl fp HSR (mW dl) bU cO ?_;intro v' W9 Dz nN nO _;have Q6:=ae Dz;have kf:=ae<|nN.mono (S':=az) fun j hj=>(a7 hj).elim;have yj:=ae nO;clear Dz nN nO);rw[List.nil_append]at Q6;have jO:lu W9 v' dl:=⟨Q6,by have:=HL.out;have:=Q7.out;omega⟩;obtain⟨A2,c2,e2⟩:=jO.shape;subst e2;have zL:=aB (∀j,aK (.slice A2 dl.length c2) j→o.B≤j) (fun j hj=>by
  rcases yj j hj with h|h
  ·exact(a7 h).elim
  ·have:=H8.bs;omega)
 have gW:=ae jO;have H9:=ae<|H8.keep kf;have HF9:=ae<|kf.aq EZ id;have yp:=ae<|kf.aq Bf id;have Qs:=ae<|kf.aq DJ id;have Qo:=ae<|ix.da kf;have NY:=ae<|MD.keep kf;clear jO y1 EZ H8 Bf DJ ix HSR bU cO MD;have k1:aw W9.drew fb 0 n:=HF9.af rfl;have k3:aE W9.drew i.cb 21 (aU i.db 32 i.dc):=H9.yh;refine dU (fun w':World=>aw w' fb 0 n∧aE w' i.cb 21 (aU i.db 32 i.dc)) 7 fun aH=>?_
 refine bX [0,1,2,3,4,5,6] ?_;refine cG ?_;have x2:aE W9.drew i.db n (dv n):=(H9.cd HN).1;have x3:W9.drew.frozen? ⟨i.db,n,none⟩=false:=(H9.cd HN).2;have wJ:(0:Int)≤(n:Int):=Int.natCast_nonneg n;have sS:(n:Int)<32:=by have:=HN.out;omega
 clear aH k1 k3;go_upto_region 14 with fail;have iN:ag (ke o i) W9 (W9.drew.setCell ⟨i.db,n,none⟩ (.slice A2 dl.length c2)):=((ag.aj (ke o i) W9).drew).trans ag.db;have VM:ag (ar i.db) W9 (W9.drew.setCell ⟨i.db,n,none⟩ (.slice A2 dl.length c2)):=((ag.aj (ar i.db) W9).drew).setCell (p:=⟨i.db,n,none⟩) (.inl (show ar i.db i.db from rfl)) _;have wO:=ae<|iW.acm (w:=W9.drew) (H9.keep ((ag.aj az W9).drew)) HN (gW.keep ((ag.aj az W9).drew)) zL;have Fa:=ae<|iN.aq Qs (HW tb jX);have GV:=ae<|iN.aq yp (HW rb eQ);have kh:=ae<|Qo.trans iN;have Oi:=ae (NY.aA VM fun j hj e=>by
  obtain⟨cs,hb⟩:=NY.1.aq hj;obtain⟨cs2,dX⟩:=H9.row.aq (k:=i.db) (aG.2 rfl);exact(hb.off dX aD) e)
 change Code.wp _ _ _ _ (W9.drew.setCell ⟨i.db,n,none⟩ (.slice A2 dl.length c2));clear iN VM x2 x3 wJ sS Qs yp Qo H9 HF9 NY;generalize W9.drew.setCell ⟨i.db,n,none⟩ (.slice A2 dl.length c2)=ga at *;go_wp2_with (first|(refine fH (dE (m:Int) (.slice Am (Dr m).length cm) true 0) Fa Tryz.underlying165 ?_)|(refine fJ (dE (m:Int) (.slice Am (Dr m).length cm) true 0) GV (jd _ _ _ _ _ _) ?_));refine bodyPost_ret (results_cell_row rfl _ _ rb _ (dE (m:Int) (.slice Am (Dr m).length cm) true 0) (0,0) _ rfl (GV.au _) Tryz.underlying165 rfl bZ) rfl ?_;have iK:ag (ar rb) ga (ga.setRow rb (dE (m:Int) (.slice Am (Dr m).length cm) true 0)):=(ag.aj (ar rb) ga).au (.inl (show ar rb rb from rfl)) _;unfold ML;rw[HG.out];rw[if_pos rfl,if_pos rfl,HM.out,aa0.out];refine⟨_,rfl,?_,Vw,⟨_,_,wO.mK GV aD aD (HW rb eQ) iK⟩,kh.au (.inr eQ) _⟩;rw[show((m:Int)).toNat=m from Int.toNat_natCast m];exact Oi.aA iK fun j hj e=>by
  obtain⟨cs,hb⟩:=Oi.1.aq hj;exact(hb.off GV aD) e
end
theorem XS:(Tryz.prog.info? 35).map (fun i=>(i.zero,i.size,i.bytes))=some (some aJ,1,24):=by kernel_rfl
theorem Uk (c:aM)(A:Option Addr)(n cp:Nat)(bc:Int):Tryz.prog.built 118 [(0,.agg (ak c (.slice A n cp))),(1,ah bc)]=some (mS c (.slice A n cp) bc aJ (.pointer none) (.pointer none) aJ):=by kernel_rfl
def aee (K:aZ)(c:aM)(k:Nat)(w:World)(e:Ending)(w':World):Prop:=
 ∃(o:cJ K c k) (i:JO),e= .returned (aO i.cb)∧ta o i K.s0 (fun _=>[]) w'∧(∀j,ke o i j→w.heap.size≤j)∧ag az w w'
def ab0 (c:aM)(hv:Value)(t1:Int)(w:World)(cb:Nat)(i:Value)(wr:World):Prop:=
 ∃(k:Nat) (v:Value),k≤32∧i=ah k∧Box wr cb 118 (mS c hv t1 aJ (.pointer none) (.pointer none) v)∧Row 35 wr v (List.replicate k aJ)∧(∀g,aK v g→w.heap.size≤g)∧ag (ar cb) w wr
theorem Tx (c:aM)(hv:Value)(t1:Int)(lv mp pp v u:Value):(mS c hv t1 lv mp pp v).setIfInBounds 21 u=mS c hv t1 lv mp pp u:=by
 simp[mS,ak]
theorem Tw (c:aM)(hv:Value)(t1:Int)(lv mp pp v u:Value):(mS c hv t1 lv mp pp v).setIfInBounds 19 u=mS c hv t1 lv u pp v:=by
 simp[mS,ak]
theorem Tv (c:aM)(hv:Value)(t1:Int)(lv mp pp v u:Value):(mS c hv t1 lv mp pp v).setIfInBounds 20 u=mS c hv t1 lv mp u v:=by
 simp[mS,ak]
section
theorem rC{P:Prop}(h:P:=by
 intro x hx;have fL:=Db.out;rcases hx with hx|hx|hx
 ·exact(hF x hx).2.2
 ·rw[show x=cb from hx];exact fL
 ·rw[show x=db from hx];omega):P:=h
theorem qJ{P:Prop}(h:P:=by
 exact(tu.aA bK fun _ _=>id).aA iK fun g hg e=>by have h1:=aG.1 hg;have h2:g=cb:=e;omega):P:=h
theorem WN {c:aM}{k:Nat}(hP:cK c)(hk:k<3){A:Option Addr}{n cp:Nat}(w:World)(bw:aW w A n cp c.h):
 Calls Tryz.prog 35 #[.agg (ak c (.slice A n cp)),ah ((k+1:Nat):Int)] w (aee (aQ c k hP hk) c k w):=by
 obtain⟨t1,Mk⟩:∃t1:Int,t1=((k+1:Nat):Int):=⟨_,rfl⟩;rw[←Mk];have NR:=ae Mk;have hw:IntKind.i64.wrap (t1 - 1)=k:=by rw[Mk,IntKind.wrap_i64];omega
 have Kf:=ae hw;have HP:=ae hP;have HK:=ae hk;have HB:=ae<|Box.fresh w 25 (ak c (.slice A n cp));have HO:=ae<|(ag.aj az w).alloc (.cells (ak c (.slice A n cp)) 25);have kx:=ae<|bw.keep HO;have hl:c.h.length≤100:=by have:=hP.hs.2.2;omega
 have HL:=ae hl;clear bw Mk hw hl
 go_enter Tryz.func35,Tryz.ntmps35
 go_upto_region 1 with fail;change Code.wp _ _ _ _ (w.alloc (.cells (ak c (.slice A n cp)) 25));generalize w.alloc (.cells (ak c (.slice A n cp)) 25)=W0 at *;obtain⟨pb,NH⟩:∃pb,pb=w.heap.size:=⟨_,rfl⟩;rw[←NH]at HB ⊢;clear NH;have mI:=ae<|Ip W0 kx HL;go_upto_region 2 with(first|(refine fH (ak c (.slice A n cp)) HB Tryz.underlying25 ?_)|(go_at_call 34;refine mI.mono ?_;rintro e W1 ⟨A1,m1,rfl,h1,h2,h3⟩;have Vu:=ae h1;have HHB:=ae h2;have aX:=ae<|HO.trans h3;have Z8:=ae h3.size;clear h1 h2 h3)|(refine fJ (ak c (.slice A1 c.h.length m1)) (Box.fresh W1 25 (ak JZ aJ)) (mQ _ _ _ _) ?_));have bp:ag az W1 ((W1.alloc (.cells (ak JZ aJ) 25)).setRow W1.heap.size (ak c (.slice A1 c.h.length m1))):=((ag.aj az W1).alloc _).au (.inr (dm _)) _;have NT:=ae<|(Box.fresh W1 25 (ak JZ aJ)).au (ak c (.slice A1 c.h.length m1));have HH2:=ae<|Vu.keep bp;have bf:=ae<|aX.trans bp;have bL:=aB (∀j,0<c.h.length→aK (.slice A1 c.h.length m1) j→w.heap.size≤j) (fun j h0 hj=>Nat.le_trans HO.size (HHB j hj));change Code.wp _ _ _ _ ((W1.alloc (.cells (ak JZ aJ) 25)).setRow W1.heap.size (ak c (.slice A1 c.h.length m1)));clear bp Vu HHB aX Z8 mI HB HO kx;generalize(W1.alloc (.cells (ak JZ aJ) 25)).setRow W1.heap.size (ak c (.slice A1 c.h.length m1))=W2 at *;generalize W1.heap.size=ob at *;go_upto_region 3 with(first|(refine fH (ak c (.slice A1 c.h.length m1)) NT Tryz.underlying25 ?_)|(refine gU rfl _ _ rfl [(0,.agg (ak c (.slice A1 c.h.length m1))),(1,ah t1)] _ (by simp[Act.eval]) (Uk c A1 c.h.length m1 t1) ?_));change Code.wp _ _ _ _ (W2.alloc (.cells (mS c (.slice A1 c.h.length m1) t1 aJ (.pointer none) (.pointer none) aJ) 118));have cB:ag az W2 (W2.alloc (.cells (mS c (.slice A1 c.h.length m1) t1 aJ (.pointer none) (.pointer none) aJ) 118)):=(ag.aj az W2).alloc _;have dM:=ae<|Box.fresh W2 118 (mS c (.slice A1 c.h.length m1) t1 aJ (.pointer none) (.pointer none) aJ);have HQ3:=ae<|cB.aq NT id;have HH3:=ae<|HH2.keep cB;have bn:=ae<|bf.trans cB;have Db:=aB (w.heap.size≤W2.heap.size) (bf.size);have HHL:=aB (∀k o,0<c.h.length→A1=some ⟨k,o,none⟩→k<W2.heap.size) (fun k o h0 e=>HH2.blk h0 e);have yu:=aB (ob≠W2.heap.size) (Nat.ne_of_lt NT.lt);have HCW:=aB (W2.heap.size<(W2.alloc (.cells (mS c (.slice A1 c.h.length m1) t1 aJ (.pointer none) (.pointer none) aJ) 118)).heap.size) (dM.lt);clear cB NT HH2 bf;generalize W2.alloc (.cells (mS c (.slice A1 c.h.length m1) t1 aJ (.pointer none) (.pointer none) aJ) 118)=W3 at *;generalize W2.heap.size=cb at *;go_wp2
 go_loopw [7] (fun iv wr=>ab0 c (.slice A1 c.h.length m1) t1 W3 cb iv wr) (fun iv _=>32 - (intOf iv).toNat)
 case atStart=>exact⟨0,_,dT _,rfl,dM,Row.vK _ _,fun g hg=>(a7 hg).elim,ag.aj _ _⟩
 case round=>
  clear dM;obtain⟨m,v,hm,rfl,hb,hr,hf,ho⟩:=hrel;have HB:=ae hb;have kf:=ae ho;have HR:=ae hr;have HF:=ae hf;have x3:aE wr cb 21 v:=hb.af rfl;have f3:wr.frozen? ⟨cb,21,none⟩=false:=hb.free 21;clear hb hr hf ho
  by_cases aY:m<32
  ·have iV:(m:Int)<32:=ao;have Bu:=ae aY;clear aY hm;go_wp2_with (at_builtin;refine cy _ rfl (.tmp 22) (.tmp 23) 116 35 rfl XS rfl Tryz.underlying116 v (List.replicate m aJ) rfl (HR.aA ((ag.aj az wr).alloc _) fun _ _=>id) (some ⟨wr.heap.size,0,none⟩) 1 1 [aJ] rfl rfl (Fy wr _ _) a6 (by simp[maxLen];have:=Bu.out;omega) (by simp;have:=Bu.out;omega) ?_;intro v2 w2 wB bp QL _;obtain⟨A2,c2,e2,_,_⟩:=wB.shape;rw[show(List.replicate m (Value.slice none 0 0) ++ [Value.slice none 0 0]).length=m+1 by simp]at e2;subst e2;have cO:=ae<|bp.aq (((ag.aj az wr).alloc (.cells #[aJ] 35)).aq HB id) (fun hk=>by obtain⟨cs,h9⟩:=HR.aq hk;exact(h9.off HB aD) rfl);have iw:=ae wB;have bf:=ae<|(kf.alloc (.cells #[aJ] 35)).aC bp fun g hg=>.inr (HF g hg);have lG:=aB (∀g,aK (.slice A2 (m+1) c2) g→W3.heap.size≤g) (fun g hg=>(QL g hg).elim (HF g) fun h=>by have:=kf.size;rw[World.size_alloc]at h;omega);have z3:=cO.af (i:=21) rfl;have zf:=cO.free 21;clear wB bp QL)
   go_roundw
   case rel=>
    have iK:ag (ar cb) w2 (w2.setCell ⟨cb,21,none⟩ (.slice A2 (m+1) c2)):=(ag.aj (ar cb) w2).setCell (p:=⟨cb,21,none⟩) (.inl (show ar cb cb from rfl)) _;refine⟨m+1,.slice A2 (m+1) c2,Bu,by push_cast;rfl,?_,?_,lG,bf.setCell (p:=⟨cb,21,none⟩) (.inl (show ar cb cb from rfl)) _⟩
    ·have:=cO.store 21 (.slice A2 (m+1) c2);rw[Tx]at this;exact this
    ·exact lX
   case measure=>simp[intOf];have:=Bu.out;omega
  ·obtain rfl:m=32:=ao;obtain⟨db,dc,rfl,_,_⟩:=HR.cell (i:=0) (u:=aJ) (by rw[List.getElem?_replicate,if_pos ao]);rw[List.length_replicate]at x3 HB HR HF;have tu:=ae (show Row 35 wr (aU db 32 dc) (Gi 32 fun _=>aJ) by
    have h6:=HR.out;rw[show List.replicate 32 (Value.slice none 0 0)=Gi 32 (fun _=>aJ) by simp[Gi,List.map_const']]at h6;exact h6)
   have Vw:=aB (W3.heap.size≤db) (HF db (aG.2 rfl));have HQ:=ae<|kf.aq HQ3 yu;clear aY hm x3 f3 HR HF;have agc:=ae HCW;have wM:=aB (cb<wr.heap.size∧db<wr.heap.size∧cb<db) (⟨HB.lt,tu.lt (aG.2 rfl),Nat.lt_of_lt_of_le agc Vw⟩);have oK:=aB (w.heap.size≤wr.heap.size) (Nat.le_trans bn.size kf.size);have mI:=aB (ag az w wr) (bn.aC kf fun j hj=>.inr (by rw[show j=cb from hj];exact Db));have HHR:=aB (aW wr A1 c.h.length m1 c.h) (HH3.off kf fun h0 k o e hk=>by have h1:=HHL.out k o h0 e;have h2:k=cb:=hk;omega);clear Vw kf HQ3 HH3 bn;have x5:aw wr ob 5 (c.f 5):=HQ.af (aL c _ aD)
   by_cases hp:c.f 5=2
   ·have lK:=ae hp;have HN:=ae (show Calls Tryz.prog 69 #[.slice A1 c.h.length m1,.agg #[ah (c.f 9),ah (c.f 10),ah (c.f 11)],ah t1] wr (ED A1 m1 c.h (dV c) k wr) by
     rw[NR.out];exact WB (q:=dV c) wr HHR HP.hs (fun t ht=>by have:=HP.pc t ht;unfold dV;omega) HK)
    rw[hp]at x5;have c9:aw wr ob 9 (c.f 9):=HQ.af (aL c _ aD);have Vl:aw wr ob 10 (c.f 10):=HQ.af (aL c _ aD);have Z2:aw wr ob 11 (c.f 11):=HQ.af (aL c _ aD);have Mr:aE wr ob 16 (.slice A1 c.h.length m1):=HQ.af rfl;clear hp;go_upto_region 11 with(go_at_call 69;refine HN.mono ?_;rintro e W4 ⟨j,rfl,h1,h2,h3,h4,h5,h6,h7,h8⟩;have HJ1:=ae h1;have Rb:=aB (j.A=A1∧j.t=k∧j.B=W4.heap.size∧wr.heap.size≤j.pb∧wr.heap.size≤j.ob∧∀k,aK j.lv k→wr.heap.size≤k) (⟨h2,h3,h4,h5,h6,h7⟩);have bK:=ae h8;have iM:=ae<|h8.aq HB id;have z20:=iM.af (i:=20) rfl;have f20:=iM.free 20;clear h1 h2 h3 h4 h5 h6 h7 h8);go_wp2;go_ret;obtain⟨j1,j2,j3,j4,j5,j6⟩:=Rb.out;have jU:=wM.out;have hsz:=oK.out;have iK:ag (ar cb) W4 (W4.setCell ⟨cb,20,none⟩ (aO j.pb)):=(ag.aj (ar cb) W4).setCell (p:=⟨cb,20,none⟩) (.inl (show ar cb cb from rfl)) _;have hF:∀x,Z4 j c.h.length x→x≠cb∧x≠db∧w.heap.size≤x:=fun x hx=>by
     rcases hx with rfl|hx|rfl|⟨h0,o,e⟩
     ·omega
     ·have:=j6 x hx;omega
     ·omega
     ·rw[j1]at e;have h1:=HHL.out x o h0 e;have h2:=bL.out x h0 gR;omega
    have e:aQ c k HP HK=pJ c k:=by unfold aQ;rw[if_pos lK.out]
    rw[e];have ZC:=bK.size;refine⟨YN HK HP lK j j2,⟨cb,db,dc,.slice A1 c.h.length m1⟩,rfl,⟨aJ,fun _=>aJ,?_,?_,?_,fun b hb=>⟨lu.nil _,fun g hg=>(a7 hg).elim⟩,⟨?_,fun e=>(hF _ e).1 rfl⟩,⟨?_,fun e=>(hF _ e).2.1 rfl⟩,?_,HP⟩,?_,?_⟩
    ·exact cJ.mK (YN HK HP lK j j2) (s:=fun _=>[]) ⟨rfl,HJ1⟩ iM aD (fun e=>(hF _ e).1 rfl) iK
    ·have:=iM.store 20 (aO j.pb);rw[Tv,NR.out]at this;exact this
    ·exact qJ
    ·show cb<j.B;omega
    ·show db<j.B;omega
    ·show cb≠db;omega
    ·exact rC
    ·exact(mI.trans bK).setCell (p:=⟨cb,20,none⟩) (.inr Db) _
   ·have lK:=ae hp;have c6:aw wr ob (6+k) (c.f (6+k)):=HQ.af (aL c _ (by have:=HK.out;omega));have hw:=Kf.out;have ZK:(k:Int)<3:=by have:=HK.out;omega
    have hp5:(c.f 5==2)=false:=by simpa using hp
    generalize Yi:c.f 5=f5 at *;have iT:=ae Yi;clear hp Yi
    by_cases hq:c.f (6+k)=2
    ·have HPK:=ae<|kj HP HK;have e9:c.f (9+k)=((fE c k).cap:Int):=by have:=HP.pc k HK.out;simp only[fE];omega
     have e12:c.f 12=((fE c k).q:Int):=by have:=HP.P8;simp only[fE];omega
     have e13:c.f 13=((fE c k).kL:Int):=by have:=HP.Uv;simp only[fE];omega
     have e14:c.f 14=((fE c k).ghost:Int):=by have:=HP.Uu;simp only[fE];omega
     have c9:aw wr ob (9+k) (c.f (9+k)):=HQ.af (aL c _ (by have:=HK.out;omega));have c12:aw wr ob 12 (c.f 12):=HQ.af (aL c _ aD);have c13:aw wr ob 13 (c.f 13):=HQ.af (aL c _ aD);have c14:aw wr ob 14 (c.f 14):=HQ.af (aL c _ aD);have HN:=ae (show Calls Tryz.prog 70 #[ah (c.f (9+k)),ah (c.f 12),ah (c.f 13),ah (c.f 14)] wr.drew (CC (fE c k) wr.drew) by
      rw[e9,e12,e13,e14];exact WH (fE c k) (by have:=HP.P8;simp only[fE];omega) (by have:=HP.P8;simp only[fE];omega) wr.drew)
     have HQQ:=ae hq;rw[hq]at c6;clear e9 e12 e13 e14 hq;generalize c.f (9+k)=f9 at *;generalize c.f 12=f12 at *;generalize c.f 13=f13 at *;generalize c.f 14=f14 at *;have k1:aw wr.drew ob (9+k) f9:=c9;have k2:aw wr.drew ob 12 f12:=c12;have k3:aw wr.drew ob 13 f13:=c13;have k4:aw wr.drew ob 14 f14:=c14;go_upto_region 10 with fail;refine dU (fun w':World=>aw w' ob (9+k) f9∧aw w' ob 12 f12∧aw w' ob 13 f13∧aw w' ob 14 f14) 13 fun aH=>?_
     refine bX [0,1,2,3,4,5,6,7,8,9,10,11] ?_;refine cM 12 fun K hK=>?_
     go_simp;refine HN.mono ?_;rintro e W4 ⟨j,rfl,h1,h2,h3⟩;have HJ1:=ae h1;have Rb:=aB (wr.heap.size≤wr.heap.size∧∀x,RF j x→wr.heap.size≤x) (⟨dm _,h2⟩);have bK:=ae<|((ag.aj az wr).drew).trans h3;have iM:=ae<|bK.aq HB id;have z19:=iM.af (i:=19) rfl;have f19:=iM.free 19;have k1:=h3.cell aH.1 id;have k2:=h3.cell aH.2.1 id;have k3:=h3.cell aH.2.2.1 id;have k4:=h3.cell aH.2.2.2 id;clear h1 h2 h3;refine eh hK fun aH=>?_
     clear hK;refine cG ?_;clear aH k1 k2 k3 k4 c6 c9 c12 c13 c14 x5 hw ZK hp5;go_wp2;go_ret;obtain⟨j4,j5⟩:=Rb.out;have jU:=wM.out;have hsz:=oK.out;have iK:ag (ar cb) W4 (W4.setCell ⟨cb,19,none⟩ (aO j.mb)):=(ag.aj (ar cb) W4).setCell (p:=⟨cb,19,none⟩) (.inl (show ar cb cb from rfl)) _;have hF:∀x,RF j x→x≠cb∧x≠db∧w.heap.size≤x:=fun x hx=>by
      have:=j5 x hx;omega
     have hB:cb<j.B∧db<j.B:=by
      obtain⟨gv,qv,hA⟩:=HJ1.out;have h1:=hA.lt.1;have h2:=j5 j.mb (.inl rfl);omega
     have e:aQ c k HP HK=mqK (fE c k) (kj HP HK):=by unfold aQ;rw[if_neg (by rw[iT.out];exact lK.out),if_pos HQQ.out]
     rw[e];have ZC:=bK.size;refine⟨acn HK HP (by rw[iT.out];exact lK) j,⟨cb,db,dc,.slice A1 c.h.length m1⟩,rfl,⟨aJ,fun _=>aJ,?_,?_,?_,fun b hb=>⟨lu.nil _,fun g hg=>(a7 hg).elim⟩,⟨hB.1,fun e=>(hF _ e).1 rfl⟩,⟨hB.2,fun e=>(hF _ e).2.1 rfl⟩,?_,HP⟩,?_,?_⟩
     ·exact cJ.mK (acn HK HP (by rw[iT.out];exact lK) j) (s:=⟨fun _=>[],0,fun _=>0,fun _=>0⟩) ⟨rfl,HJ1⟩ iM aD (fun e=>(hF _ e).1 rfl) iK
     ·have:=iM.store 19 (aO j.mb);rw[Tw,NR.out]at this;exact this
     ·exact qJ
     ·show cb≠db;omega
     ·exact rC
     ·exact(mI.trans bK).setCell (p:=⟨cb,19,none⟩) (.inr Db) _
    ·have HQQ:=ae hq;have hq6:(c.f (6+k)==2)=false:=by simpa using hq
     clear hq;generalize hf6:c.f (6+k)=f6 at *;have nR:=ae hf6;clear hf6;go_wp2;go_ret;have jU:=wM.out;have hsz:=oK.out;have e:aQ c k HP HK=Rj (c.f (9+k)).toNat:=by unfold aQ;rw[if_neg (by rw[iT.out];exact lK.out),if_neg (by rw[nR.out];exact HQQ.out)]
     rw[e];refine⟨adQ HK HP (by rw[iT.out];exact lK) wr.heap.size,⟨cb,db,dc,.slice A1 c.h.length m1⟩,rfl,⟨aJ,fun _=>aJ,⟨aF.nil _ _ _,dm _⟩,?_,tu,fun b hb=>⟨lu.nil _,fun g hg=>(a7 hg).elim⟩,⟨jU.1,id⟩,⟨jU.2.1,id⟩,?_,HP⟩,?_,mI⟩
     ·have:=HB.out;rw[NR.out]at this;exact this
     ·show cb≠db;omega
     ·intro x hx;have fL:=Db.out;rcases hx with hx|hx|hx
      ·exact hx.elim
      ·rw[show x=cb from hx];exact fL
      ·rw[show x=db from hx];omega
end
theorem dD.fQ {w:World}{base:Nat}{v:Value}{I:List (Int×Int)}(h:dD w base v I){k:Nat}(hk:aK v k):∃cs,Box w k 146 cs:=by
 rcases h.2 with⟨rfl,_⟩|⟨g,cap,cur,rfl,hb,hg,_⟩
 ·exact(a7 hk).elim
 ·have e:=aG.1 hk;subst e;exact⟨cur,hg⟩
theorem Calls.ex {P:Program}{f:FuncId}{args:Array Value}{w:World}{R:Ending→World→Prop}(h:Calls P f args w R):∃e w',R e w':=by
 obtain⟨e,w',_,hR,_⟩:=h [];exact⟨e,w',hR⟩
def nU (K:aZ)(s:K.σ):Prop:=∃i w,K.R i s w
theorem nU.use {K:aZ}{s:K.σ}{b:Int}(h:nU K s)(hb:b∈K.sp.all s)(ha:K.sp.eE s<bN):nU K (K.sp.use s b):=by
 obtain⟨i,w,hR⟩:=h;obtain⟨_,w',_,h2,_⟩:=Calls.ex ((K.oc i).use hR hb ha);exact⟨i,w',h2⟩
theorem nU.rem {K:aZ}{s:K.σ}{b:Int}(h:nU K s)(hb:b∈K.sp.all s):nU K (K.sp.rem s b):=by
 obtain⟨i,w,hR⟩:=h;obtain⟨_,w',_,h2,_⟩:=Calls.ex ((K.oc i).rem hR hb);exact⟨i,w',h2⟩
theorem nU.add {K:aZ}{s:K.σ}{b:Int}(h:nU K s)(h0:0≤b)(h1:b<64)(ht:K.sp.takes b)(ha:K.sp.eE s<bN):nU K (K.sp.add s b).1:=by
 obtain⟨i,w,hR⟩:=h;obtain⟨_,w',_,h2,_⟩:=Calls.ex ((K.oc i).add hR h0 h1 ht ha);exact⟨i,w',h2⟩
structure kK where
 x:Nat
 zz:Nat
 EG:Nat
 scc:Nat
 a8:Nat
 sv:Value
 pz:Value
 en:Value
 dv:Nat→Value
 r:JO
variable {K:aZ}{c:aM}
def cR (o:cJ K c 0)(a:kK):Nat→Prop:=fun k=>ke o a.r k∨k=a.x∨k=a.zz∨k=a.a8∨aK a.en k
structure bA (Z:ZN)(o:cJ K c 0)(a:kK)(M:CM K.σ)(Dr:Nat→List Int)(w:World):Prop where
 aq:Box w a.x 52 (br c a.pz a.r.cb (aO a.zz) (aU a.a8 (cN c) (cN c)) (M.ops:Nat) M.up a.en)
 slots:Box w a.a8 54 (mC (cN c) fun j=>sR (M.S j) (a.dv j))
 fw:∀j,j<cN c→cX Z w (a.dv j) (M.S j).ed
 rc:ta o a.r M.s Dr w
 gd:nU K M.s
 dd:∀b l,M.D b=some l→Dr b.toNat=l
 keys:∀b,(M.D b).isSome=true↔b∈K.sp.all M.s
 rg:∀b,b∈K.sp.all M.s→0≤b∧b<c.f 2
 yk:Box w a.zz 140 (mJ a.sv (aU a.EG 4 a.scc))
 its:dD w Z.B a.sv (gT M.U)
 cap:BK w a.EG (dF c)
 tD:∃cs,Box w a.EG 3 cs
 oq:jQ M.U
 bw:∃A n m,a.pz= .slice A n m∧aW w A n m c.h∧(0<c.h.length→∀k,aK a.pz k→¬cR o a k)
 en:dy Z w Z.B a.en M.en
 fs:∀k,ke o a.r k→k≠a.x∧k≠a.zz∧k≠a.EG∧k≠a.a8∧¬aK a.sv k∧¬aK a.en k
 lo:∀k,cR o a k→Z.B≤k
 zn:∀k,Z.N k↔ke o a.r k
 right:cK c
variable {Z:ZN}{w w':World}{S:Nat→Prop}{o:cJ K c 0}{a:kK}{M:CM K.σ}{Dr:Nat→List Int}
theorem bA.Gg (h:bA Z o a M Dr w){k:Nat}(hk:k=a.x∨k=a.zz∨k=a.a8∨aK a.en k){t:TypeId}{cs:Array Value}(hb:Box w k t cs):t∈[52,140,54,58]:=by
 rcases hk with e|e|e|e
 ·rw[e]at hb;rw[(hb.same h.aq).1];decide
 ·rw[e]at hb;rw[(hb.same h.yk).1];decide
 ·rw[e]at hb;rw[(hb.same h.slots).1];decide
 ·obtain⟨_,cs',h2⟩:=h.en.aq e;rw[(hb.same h2).1];decide
theorem bA.wr (h:bA Z o a M Dr w):Wr Z (cR o a) w:=fun k _ hk=>⟨h.lo k hk,by
 rcases hk with e|e
 ·exact .inl ((h.zn k).2 e)
 ·exact .inr fun cs hb=>absurd (h.Gg e hb) aD⟩
theorem bA.kB (h:bA Z o a M Dr w){k:Nat}(hk:cR o a k):k<w.heap.size:=by
 rcases hk with e|e|e|e|e
 ·exact Nat.lt_of_lt_of_le (h.rc.kB e) h.rc.bs
 ·rw[e];exact h.aq.lt
 ·rw[e];exact h.yk.lt
 ·rw[e];exact h.slots.lt
 ·obtain⟨_,cs',h2⟩:=h.en.aq e;exact h2.lt
theorem bA.off (h:bA Z o a M Dr w)(ho:ag S w w')(hS:Wr Z S w)(hW:∀k,cR o a k→¬S k)(hT:∀k cs,S k→¬Box w k 3 cs∧¬Box w k 5 cs∧¬Box w k 146 cs)(hH:0<c.h.length→∀k,aK a.pz k→¬S k):bA Z o a M Dr w':=by
 have fL:¬S a.EG:=fun e=>by
  obtain⟨cs,hb⟩:=h.tD;exact(hT _ cs e).1 hb
 exact {
  aq:=ho.aq h.aq (hW _ (.inr (.inl rfl)))
  slots:=ho.aq h.slots (hW _ (.inr (.inr (.inr (.inl rfl)))))
  fw:=fun j hj=>(h.fw j hj).aA ho hS
  rc:=h.rc.dC ho (fun k hk=>hW k (.inl hk)) fun k cs hk _=>⟨(hT k cs hk).1,(hT k cs hk).2.1⟩
  gd:=h.gd,dd:=h.dd,keys:=h.keys,rg:=h.rg
  yk:=ho.aq h.yk (hW _ (.inr (.inr (.inl rfl))))
  its:=h.its.aA ho fun k hk e=>by
   obtain⟨cs,hb⟩:=h.its.fQ hk;exact(hT k cs e).2.2 hb
  cap:=h.cap.aA ho fL
  tD:=h.tD.imp fun cs hb=>ho.aq hb fL
  oq:=h.oq
  bw:=by
   obtain⟨A,n,m,e,h1,h2⟩:=h.bw;exact⟨A,n,m,e,h1.mH ho fun h0 k hk=>hH h0 k (e▸hk),h2⟩
  en:=h.en.aA ho hS fun k hk=>hW k (.inr (.inr (.inr (.inr hk))))
  fs:=h.fs,lo:=h.lo,zn:=h.zn,right:=h.right}
theorem bA.keep (h:bA Z o a M Dr w)(ho:ag az w w'):bA Z o a M Dr w':=h.off ho Wr.non (fun _ _=>id) (fun _ _ e=>e.elim) fun _ _ _=>id
theorem bA.nn (h:bA Z o a M Dr w):1≤cN c∧cN c≤4∧((cN c:Nat):Int)=c.f 1:=by
 have:=h.right.p1;unfold cN;omega
theorem bA.rest (h:bA Z o a M Dr w)(hd:∀k,S k→k=a.x∨k=a.zz∨k=a.a8∨aK a.en k)(ho:ag S w w'):(∀{v l},cX Z w v l→cX Z w' v l)∧ta o a.r M.s Dr w'∧dD w' Z.B a.sv (gT M.U)∧BK w' a.EG (dF c)∧(∃cs,Box w' a.EG 3 cs)∧
 (∃A n m,a.pz= .slice A n m∧aW w' A n m c.h∧(0<c.h.length→∀k,aK a.pz k→¬cR o a k)):=by
 have hW:∀k,S k→cR o a k:=fun k hk=>.inr (hd k hk)
 have hS:Wr Z S w:=fun k hk hs=>h.wr k hk (hW k hs)
 have fL:¬S a.EG:=fun e=>by
  obtain⟨cs,hb⟩:=h.tD;exact absurd (h.Gg (hd _ e) hb) aD
 refine⟨fun hv=>hv.aA ho hS,h.rc.dC ho (fun k hk e=>?_) fun k cs hk _=>⟨fun hb=>absurd (h.Gg (hd _ hk) hb) aD,fun hb=>absurd (h.Gg (hd _ hk) hb) aD⟩,h.its.aA ho fun k hk e=>?_,h.cap.aA ho fL,h.tD.imp fun cs hb=>ho.aq hb fL,?_⟩
 ·obtain⟨f1,f2,_,f4,_,f6⟩:=h.fs k hk;rcases hd k e with e|e|e|e
  ·exact f1 e
  ·exact f2 e
  ·exact f4 e
  ·exact f6 e
 ·obtain⟨cs,hb⟩:=h.its.fQ hk;exact absurd (h.Gg (hd _ e) hb) aD
 ·exact qs
theorem bA.tC (h:bA Z o a M Dr w){k:Nat}{t:TypeId}{cs:Array Value}(hb:Box w k t cs)(ht:58≠t):¬aK a.en k:=fun e=>by
 obtain⟨_,cs',h2⟩:=h.en.aq e;exact(h2.off hb ht) rfl
theorem bA.cache (h:bA Z o a M Dr w){s':K.σ}{uO:Nat→List Int}{Dp:Int→Option (List Int)}(hr:ta o a.r s' uO w')(hi:nU K s')(ho:ag (ke o a.r) w w')(hdp:∀b l,Dp b=some l→uO b.toNat=l)(hk:∀b,(Dp b).isSome=true↔b∈K.sp.all s')
 (hg:∀b,b∈K.sp.all s'→0≤b∧b<c.f 2):bA Z o a {M with s:=s',D:=Dp} uO w':=by
 have hS:Wr Z (ke o a.r) w:=fun k hk hs=>h.wr k hk (.inl hs)
 exact {
  aq:=ho.aq h.aq fun e=>(h.fs _ e).1 rfl
  slots:=ho.aq h.slots fun e=>(h.fs _ e).2.2.2.1 rfl
  fw:=fun j hj=>(h.fw j hj).aA ho hS
  rc:=hr,gd:=hi,dd:=hdp,keys:=hk,rg:=hg
  yk:=ho.aq h.yk fun e=>(h.fs _ e).2.1 rfl
  its:=h.its.aA ho fun k hk e=>(h.fs k e).2.2.2.2.1 hk
  cap:=h.cap.aA ho fun e=>(h.fs _ e).2.2.1 rfl
  tD:=h.tD.imp fun cs hb=>ho.aq hb fun e=>(h.fs _ e).2.2.1 rfl
  oq:=h.oq
  bw:=by
   obtain⟨A,n,m,e,h1,h2⟩:=h.bw;exact⟨A,n,m,e,h1.mH ho fun h0 k hk e2=>h2 h0 k (e▸hk) (.inl e2),h2⟩
  en:=h.en.aA ho hS fun k hk e=>(h.fs k e).2.2.2.2.2 hk
  fs:=h.fs,lo:=h.lo,zn:=h.zn,right:=h.right}
theorem bA.stack (h:bA Z o a M Dr w){U':US}{v':Value}(hb:Box w' a.zz 140 (mJ v' (aU a.EG 4 a.scc)))(hi:dD w' Z.B v' (gT U'))(hu:jQ U')(hv:∀k,aK v' k→aK a.sv k∨w.heap.size≤k)(ho:ag (ar a.zz) w w'):
 bA Z o {a with sv:=v'} {M with U:=U'} Dr w':=by
 obtain⟨h1,h2,h3,h4,h5,h6⟩:=h.rest (S:=ar a.zz) (fun k hk=>.inr (.inl hk)) ho;have hS:Wr Z (ar a.zz) w:=fun k hk hs=>h.wr k hk (.inr (.inr (.inl hs)))
 exact {
  aq:=ho.aq h.aq (h.aq.off h.yk aD)
  slots:=ho.aq h.slots (h.slots.off h.yk aD)
  fw:=fun j hj=>h1 (h.fw j hj)
  rc:=h2,gd:=h.gd,dd:=h.dd,keys:=h.keys,rg:=h.rg
  yk:=hb,its:=hi,cap:=h4,tD:=h5,oq:=hu,bw:=h6
  en:=h.en.aA ho hS fun k hk e=>h.tC h.yk aD (by rw[←show k=a.zz from e];exact hk)
  fs:=fun k hk=>by
   obtain⟨f1,f2,f3,f4,f5,f6⟩:=h.fs k hk;refine⟨f1,f2,f3,f4,fun e=>?_,f6⟩;rcases hv k e with e|e
   ·exact f5 e
   ·have:=h.kB (.inl hk);omega
  lo:=h.lo,zn:=h.zn,right:=h.right}
theorem bA.cell (h:bA Z o a M Dr w){j:Nat}{v:Value}{n:Nat}{up:Bool}(hc:(br c a.pz a.r.cb (aO a.zz) (aU a.a8 (cN c) (cN c)) (M.ops:Nat) M.up a.en).setIfInBounds j v=br c a.pz a.r.cb (aO a.zz) (aU a.a8 (cN c) (cN c)) (n:Nat) up a.en):
 bA Z o a {M with ops:=n,up:=up} Dr (w.setCell ⟨a.x,j,none⟩ v):=by
 have ho:ag (ar a.x) w (w.setCell ⟨a.x,j,none⟩ v):=(ag.aj (ar a.x) w).setCell (p:=⟨a.x,j,none⟩) (.inl (show ar a.x a.x from rfl)) _;obtain⟨h1,h2,h3,h4,h5,h6⟩:=h.rest (S:=ar a.x) (fun k hk=>.inl hk) ho;have hS:Wr Z (ar a.x) w:=fun k hk hs=>h.wr k hk (.inr (.inl hs))
 have hb:=h.aq.store j v;rw[hc]at hb;exact {
  aq:=hb
  slots:=ho.aq h.slots (h.slots.off h.aq aD)
  fw:=fun j hj=>h1 (h.fw j hj)
  rc:=h2,gd:=h.gd,dd:=h.dd,keys:=h.keys,rg:=h.rg
  yk:=ho.aq h.yk (h.yk.off h.aq aD),its:=h3,cap:=h4,tD:=h5,oq:=h.oq,bw:=h6
  en:=h.en.aA ho hS fun k hk e=>h.tC h.aq aD (by rw[←show k=a.x from e];exact hk)
  fs:=h.fs,lo:=h.lo,zn:=h.zn,right:=h.right}
theorem bA.KP (h:bA Z o a M Dr w)(n:Nat):bA Z o a {M with ops:=n} Dr (w.setCell ⟨a.x,20,none⟩ (ah n)):=h.cell (up:=M.up) (Cy ..)
theorem bA.MG (h:bA Z o a M Dr w)(b:Bool):bA Z o a {M with up:=b} Dr (w.setCell ⟨a.x,21,none⟩ (.bool b)):=h.cell (n:=M.ops) (zw ..)
theorem bA.vi (h:bA Z o a M Dr w){i:Nat}{s:kY}{d:Value}(ho:ag (ar a.a8) w w')(hb:Box w' a.a8 54 (mC (cN c) (aI (fun j=>sR (M.S j) (a.dv j)) i (sR s d))))(hd:cX Z w d s.ed):bA Z o {a with dv:=aI a.dv i d} {M with S:=aI M.S i s} Dr w':=by
 obtain⟨h1,h2,h3,h4,h5,h6⟩:=h.rest (S:=ar a.a8) (fun k hk=>.inr (.inr (.inl hk))) ho;have hS:Wr Z (ar a.a8) w:=fun k hk hs=>h.wr k hk (.inr (.inr (.inr (.inl hs))))
 exact {
  aq:=ho.aq h.aq (h.aq.off h.slots aD)
  slots:=by
   have:(fun j=>sR (aI M.S i s j) (aI a.dv i d j))=aI (fun j=>sR (M.S j) (a.dv j)) i (sR s d):=by
    exact q6
   show Box w' a.a8 _ (mC (cN c) fun j=>sR (aI M.S i s j) (aI a.dv i d j))
   rw[this];exact hb
  fw:=fun j hj=>by
   show cX Z w' (aI a.dv i d j) (aI M.S i s j).ed
   unfold aI
   by_cases e:j=i
   ·rw[if_pos e,if_pos e];exact h1 hd
   ·rw[if_neg e,if_neg e];exact h1 (h.fw j hj)
  rc:=h2,gd:=h.gd,dd:=h.dd,keys:=h.keys,rg:=h.rg
  yk:=ho.aq h.yk (h.yk.off h.slots aD),its:=h3,cap:=h4,tD:=h5,oq:=h.oq,bw:=h6
  en:=h.en.aA ho hS fun k hk e=>h.tC h.slots aD (by rw[←show k=a.a8 from e];exact hk)
  fs:=h.fs,lo:=h.lo,zn:=h.zn,right:=h.right}
theorem bA.pH (h:bA Z o a M Dr w){ev:Value}{E:List nP}(ho:ag (aK a.en) w w')(he:dy Z w' Z.B ev E)(hv:∀k,aK ev k→aK a.en k∨w.heap.size≤k):
 bA Z o {a with en:=ev} {M with en:=E} Dr (w'.setCell ⟨a.x,22,none⟩ ev)∧ag (cR o a) w (w'.setCell ⟨a.x,22,none⟩ ev):=by
 have bp:ag (fun k=>aK a.en k∨k=a.x) w (w'.setCell ⟨a.x,22,none⟩ ev):=(ho.mono fun k hk=>.inl (.inl hk)).setCell (p:=⟨a.x,22,none⟩) (.inl (.inr rfl)) _;obtain⟨h1,h2,h3,h4,h5,h6⟩:=h.rest (S:=fun k=>aK a.en k∨k=a.x) (fun k hk=>hk.elim (fun e=>.inr (.inr (.inr e))) .inl) bp;have Bc:=ho.aq h.aq (h.tC h.aq aD);have hb:=Bc.store 22 ev;rw[Et]at hb;have j2:ag (ar a.x) w' (w'.setCell ⟨a.x,22,none⟩ ev):=(ag.aj (ar a.x) w').setCell (p:=⟨a.x,22,none⟩) (.inl (show ar a.x a.x from rfl)) _;have hSl:Wr Z (ar a.x) w':=fun k hk hs=>by
  have e:k=a.x:=hs;subst e;exact⟨h.lo _ (.inr (.inl rfl)),.inr fun cs dX=>(Bc.off dX aD) rfl⟩
 refine⟨{
  aq:=hb
  slots:=bp.aq h.slots fun e=>e.elim (h.tC h.slots aD) (h.slots.off h.aq aD)
  fw:=fun j hj=>h1 (h.fw j hj)
  rc:=h2,gd:=h.gd,dd:=h.dd,keys:=h.keys,rg:=h.rg
  yk:=bp.aq h.yk fun e=>e.elim (h.tC h.yk aD) (h.yk.off h.aq aD)
  its:=h3,cap:=h4,tD:=h5,oq:=h.oq
  bw:=by
   obtain⟨A,n,m,e,h7,h8⟩:=h6;refine⟨A,n,m,e,h7,fun h0 k hk e2=>?_⟩;rcases e2 with e2|e2|e2|e2|e2
   ·exact h8 h0 k hk (.inl e2)
   ·exact h8 h0 k hk (.inr (.inl e2))
   ·exact h8 h0 k hk (.inr (.inr (.inl e2)))
   ·exact h8 h0 k hk (.inr (.inr (.inr (.inl e2))))
   ·rcases hv k e2 with e3|e3
    ·exact h8 h0 k hk (.inr (.inr (.inr (.inr e3))))
    ·obtain⟨A',n',m',e',Kb,_⟩:=h.bw;have:=Kb.lt h0 (e'▸hk);omega
  en:=he.aA j2 hSl fun k hk e=>by
   obtain⟨_,cs',h7⟩:=he.aq hk;exact(h7.off Bc aD) (show k=a.x from e)
  fs:=fun k hk=>by
   obtain⟨f1,f2,f3,f4,f5,f6⟩:=h.fs k hk;refine⟨f1,f2,f3,f4,f5,fun e=>?_⟩;rcases hv k e with e|e
   ·exact f6 e
   ·have:=h.kB (.inl hk);omega
  lo:=fun k hk=>by
   rcases hk with e|e|e|e|e
   ·exact h.lo k (.inl e)
   ·exact h.lo k (.inr (.inl e))
   ·exact h.lo k (.inr (.inr (.inl e)))
   ·exact h.lo k (.inr (.inr (.inr (.inl e))))
   ·exact(he.aq e).1
  zn:=h.zn,right:=h.right},bp.mono fun k hk=>.inl (hk.elim (fun e=>.inr (.inr (.inr (.inr e)))) fun e=>.inr (.inl e))⟩
variable {K:aZ}{c:aM}{Z:ZN}{w:World}{o:cJ K c 0}{a:kK}{M:CM K.σ}{Dr:Nat→List Int}
theorem bA.inv (h:bA Z o a M Dr w):o.Inv M.s:=by
 obtain⟨i,w,hR⟩:=h.gd;exact o.inv hR
theorem bA.dec (h:bA Z o a M Dr w)(b:Int):decide (b∈K.sp.all M.s)=(M.D b).isSome:=by
 have:=h.keys b
 cases e:(M.D b).isSome with
 |true=>exact decide_eq_true (this.1 e)
 |false=>exact decide_eq_false fun e2=>by rw[this.2 e2]at e;cases e
theorem MU (h:bA Z o a M Dr w)(b:Int):
 Calls Tryz.prog 43 #[aO a.r.cb,ah b] w fun e w'=>e= .returned (.bool (M.D b).isSome)∧ag az w w':=by
 rw[←h.dec b];exact AH h.rc h.inv
theorem bA.nat (h:bA Z o a M Dr w){b:Int}{d:List Int}(hM:M.D b=some d):∃n:Nat,b=n∧n<32∧(n:Int)∈K.sp.all M.s∧Dr n=d:=by
 have hm:=(h.keys b).1 (by rw[hM];rfl);have hr:=h.rg b hm;have h2:=h.right.p2;have hd:=h.dd b d hM;obtain⟨n,rfl⟩:∃n:Nat,b=n:=⟨b.toNat,ao⟩;exact⟨n,rfl,ao,hm,hd⟩
theorem bA.aad (h:bA Z o a M Dr w){w':World}{v:Value}{l:List Int}(hv:lu w' v l)(hB:∀j,aK v j→o.B≤j):cX Z w' v l:=
 cX.row hv.1 (by have:=hv.2;omega) fun k hk e=>by
  have:=h.rc.kB ((h.zn k).1 e);have:=hB k hk;omega
theorem yb (h:bA Z o a M Dr w){b:Int}{d:List Int}(hM:M.D b=some d):
 Calls Tryz.prog 44 #[aO a.r.cb,ah b] w fun e w'=>∃(A:Option Addr) (n m:Nat),e= .returned (.tuple #[.agg #[ah b,.slice A n m],.bool true])∧
  cX Z w' (.slice A n m) d∧bA Z o a (fP K.sp M b) Dr w'∧ag (ke o a.r) w w':=by
 obtain⟨n,rfl,hn,hm,hd⟩:=h.nat hM;refine(Jf h.rc h.inv hm hn).mono ?_;rintro e w' ⟨v,rfl,hv,hB,hr,ho⟩;rw[hd]at hv;obtain⟨A,q,rfl⟩:=hv.shape;refine⟨A,_,q,rfl,h.aad hv hB,?_,ho⟩;have ae4:=(show∃i w,K.R i M.s w from h.gd);obtain⟨i,w0,hR⟩:=ae4;have hL:=(K.oc i).Kn hR hm;unfold fP;rw[if_pos (by rw[hM];rfl)];refine h.cache hr (h.gd.rem hm) ho (fun x l hx=>?_) (fun x=>?_) fun x hx=>h.rg x ((hL x).1 hx).1
 ·unfold aT at hx
  split at hx
  ·cases hx
  ·exact h.dd x l hx
 ·rw[hL x,←h.keys x];unfold aT
  by_cases e:x=(n:Int)
  ·rw[if_pos e];exact⟨fun h=>(by cases h),fun h=>absurd e h.2⟩
  ·rw[if_neg e];exact⟨fun h=>⟨h,e⟩,fun h=>h.1⟩
theorem OQ (h:bA Z o a M Dr w)(b:Int):
 Calls Tryz.prog 44 #[aO a.r.cb,ah b] w fun e w'=>∃(b':Int) (A:Option Addr) (n m:Nat),e= .returned (.tuple #[.agg #[ah b',.slice A n m],.bool (M.D b).isSome])∧
  bA Z o a (fP K.sp M b) Dr w'∧ag (ke o a.r) w w':=by
 cases hM:M.D b with
 |none=>
  have hb:b∉K.sp.all M.s:=fun e=>by have:=(h.keys b).2 e;rw[hM]at this;cases this
  refine(Je h.rc h.inv hb).mono ?_;rintro e w' ⟨rfl,ho⟩;refine⟨0,none,0,0,rfl,?_,ho.mono fun k hk=>hk.elim⟩;unfold fP;rw[if_neg (by rw[hM];decide)];exact h.keep ho
 |some d=>
  refine(yb h hM).mono ?_;rintro e w' ⟨A,n,m,rfl,_,h2,h3⟩;exact⟨b,A,n,m,rfl,h2,h3⟩
theorem Ja (h:bA Z o a M Dr w){b:Int}{d:List Int}(hM:M.D b=some d)(cw:K.sp.eE M.s<bN):
 Calls Tryz.prog 47 #[aO a.r.cb,ah b] w fun e w'=>∃(A:Option Addr) (n m:Nat),e= .returned (.tuple #[.slice A n m,.bool true])∧
  cX Z w' (.slice A n m) d∧bA Z o a {M with s:=K.sp.use M.s b} Dr w'∧ag (ke o a.r) w w':=by
 obtain⟨n,rfl,hn,hm,hd⟩:=h.nat hM;refine(Lm h.rc h.inv hm hn cw).mono ?_;rintro e w' ⟨v,rfl,hv,hB,hr,ho⟩;rw[hd]at hv;obtain⟨A,q,rfl⟩:=hv.shape;refine⟨A,_,q,rfl,h.aad hv hB,?_,ho⟩;obtain⟨i,w0,hR⟩:=(show∃i w,K.R i M.s w from h.gd);have hL:=(K.oc i).Rh hR hm;exact h.cache hr (h.gd.use hm cw) ho h.dd (fun x=>(h.keys x).trans (hL x).symm) fun x hx=>h.rg x ((hL x).1 hx)
theorem Ci (h:bA Z o a M Dr w)(b x:Int):Calls Tryz.prog 46 #[.agg (ak c a.pz),ah b,ah x] w fun e w'=>e= .returned (ah (wP c b x))∧ag az w w':=by
 obtain⟨A,n,m,e,h1,_⟩:=h.bw;rw[e];refine(I7 h.right b x w h1).mono ?_;rintro e w' ⟨T,rfl,hT,ho⟩;exact⟨by rw[Fv hT],ho⟩
theorem OE {b:Int}{dl:List Int}{u:Value}{level:Int}{s:K.σ}{r:JO}(hr:ta o r s Dr w)(hI:o.Inv s)(kv:nD w u dl)(hc:gp c 0 b dl.length level≠0):
 Calls Tryz.prog 93 #[aO r.cb,.agg #[ah b,u],ah level] w fun e w'=>e= .returned (.agg (dE 0 aJ false (gp c 0 b dl.length level)))∧ag az w w':=by
 unfold gp at hc ⊢
 by_cases ht:oA c b=false
 ·rw[if_pos ht];unfold oA at ht
  by_cases h0:b<0
  ·exact Jc hr kv h0
  ·refine Jb hr kv ao ?_;rw[decide_eq_true (by omega:0≤b)]at ht;simpa using ht
 ·rw[if_neg ht]at hc ⊢;have ht:oA c b=true:=by simpa using ht
  unfold oA at ht;rw[Bool.and_eq_true]at ht;have h0:=of_decide_eq_true ht.1;have h1:=of_decide_eq_true ht.2
  by_cases hl:(dl.length:Int)≠c.f 3
  ·rw[if_pos hl];exact Jd hr kv h0 h1 hl
  ·rw[if_neg hl]at hc ⊢;have hl:(dl.length:Int)=c.f 3:=ao
   by_cases hk:fj c 0 b level=false
   ·rw[if_pos hk];exact Ln hr kv hI h0 h1 hl hk
   ·rw[if_neg hk]at hc;exact absurd rfl hc
section
variable {hP:cK c}{hk:0<3}{o:cJ (aQ c 0 hP hk) c 0}{M:CM (aQ c 0 hP hk).σ}
theorem Iv (h:bA Z o a M Dr w){b lev:Int}{v:Value}{d:List Int}(hd:cX Z w v d)(cw:(aQ c 0 hP hk).sp.eE M.s<bN):
 Calls Tryz.prog 93 #[aO a.r.cb,.agg #[ah b,v],ah lev] w fun e w'=>∃(vb:Int) (A:Option Addr) (n m:Nat) (cd:Int) (uO:Nat→List Int),e= .returned (.agg (dE vb (.slice A n m) (bH (aQ c 0 hP hk).sp c M b d lev) cd))∧
  (bH (aQ c 0 hP hk).sp c M b d lev=true→vb=((aQ c 0 hP hk).sp.add M.s b).2.1∧cX Z w' (.slice A n m) ((M.D ((aQ c 0 hP hk).sp.add M.s b).2.1).getD []))∧bA Z o a (fZ (aQ c 0 hP hk).sp c M b d lev) uO w'∧ag (ke o a.r) w w':=by
 by_cases hc:gp c 0 b d.length lev=0
 ·obtain⟨ht,hlen,h0,h1⟩:=kr hc;have h3:=h.right.p3;have h2:=h.right.p2;have Qf:(aQ c 0 hP hk).sp.takes b:=pd ht;have hl0:0<d.length:=ao;have eD:∀j,aK v j→¬ke o a.r j:=fun j hj e=>h.wr.off (hd.2 hl0 j hj) (Fp hd.1 hl0 j hj) (.inl e)
  obtain⟨n,rfl⟩:∃n:Nat,b=n:=⟨b.toNat,ao⟩;have hg:bH (aQ c 0 hP hk).sp c M n d lev=((aQ c 0 hP hk).sp.add M.s n).2.2:=by unfold bH;rw[decide_eq_true hc];rfl
  have hM:fZ (aQ c 0 hP hk).sp c M n d lev= {M with s:=((aQ c 0 hP hk).sp.add M.s n).1,D:=aT (if((aQ c 0 hP hk).sp.add M.s n).2.2=true then aT M.D ((aQ c 0 hP hk).sp.add M.s n).2.1 none else M.D) n (some d)}:=by unfold fZ;rw[if_neg (fun e=>e hc)]
  obtain⟨i,w0,hR⟩:=(show∃i w,(aQ c 0 hP hk).R i M.s w from h.gd);have aaJ:=((aQ c 0 hP hk).oc i).GO hR h0 ao Qf;have wC:=h.gd.add h0 ao Qf cw;have hdd:∀(D0:Int→Option (List Int)),(∀x l,D0 x=some l→M.D x=some l)→∀x l,aT D0 n (some d) x=some l→aI Dr n d x.toNat=l:=fun D0 Vi x l hx=>by
   unfold aT at hx;unfold aI
   by_cases e:x=(n:Int)
   ·rw[if_pos e]at hx;injection hx with hx;rw[if_pos ao];exact hx
   ·rw[if_neg e]at hx;have hMx:=Vi x l hx;have:=h.rg x ((h.keys x).1 (by rw[hMx];rfl));rw[if_neg ao];exact h.dd x l hMx
  rcases aaJ with⟨e1,e2,e3⟩|⟨e1,e2,e3,e4⟩
  ·refine(FN (level:=lev) h.rc h.inv h1 hlen ht Qf cw hd.1 eD e1).mono ?_;rintro e w' ⟨vd,he,hv,hB,hr,ho⟩;rw[e1,if_neg aD]at he hv;obtain⟨A2,c2,e5⟩:=hv.shape;rw[hg,hM,e1,if_neg aD];refine⟨0,A2,_,c2,0,aI Dr n d,he.trans (by rw[e5]),fun e=>(by cases e),h.cache hr wC ho (hdd M.D fun _ _ e=>e) (fun x=>?_) (fun x hx=>?_),ho⟩
   ·rw[e3 x,←h.keys x];unfold aT
    by_cases e:x=(n:Int)
    ·rw[if_pos e];exact⟨fun _=>.inl e,fun _=>rfl⟩
    ·rw[if_neg e];exact⟨.inr,fun h=>h.elim (fun h=>absurd h e) id⟩
   ·rcases(e3 x).1 hx with e|e
    ·rw[e];exact⟨h0,h1⟩
    ·exact h.rg x e
  ·have Zw:=h.rg _ e2;obtain⟨m,hm⟩:∃m:Nat,((aQ c 0 hP hk).sp.add M.s n).2.1=m:=⟨_,(Int.toNat_of_nonneg Zw.1).symm⟩;obtain⟨l0,acM⟩:=Option.isSome_iff_exists.1 ((h.keys _).2 e2);have hDr:=h.dd _ _ acM;refine(FO (level:=lev) h.rc h.inv h1 hlen ht Qf cw hd.1 eD e1 hm (by rw[hm]at Zw;omega)).mono ?_;rintro e w' ⟨vd,he,hv,hB,hr,ho⟩;rw[e1,if_pos rfl]at he hv;rw[hDr]at hv;obtain⟨A2,c2,e5⟩:=hv.shape;rw[hg,hM,e1,if_pos rfl];refine⟨((aQ c 0 hP hk).sp.add M.s n).2.1,A2,_,c2,0,aI Dr n d,he.trans (by rw[e5]),fun _=>⟨rfl,by rw[acM,←e5];exact h.aad hv hB⟩,h.cache hr wC ho (hdd _ fun x l hx=>?_) (fun x=>?_) (fun x hx=>?_),ho⟩
   ·unfold aT at hx
    split at hx
    ·cases hx
    ·exact hx
   ·rw[e4 x,←h.keys x]
    show(if x=(n:Int)then some d else if x=((aQ c 0 hP hk).sp.add M.s n).2.1 then none else M.D x).isSome=true↔_
    by_cases e:x=(n:Int)
    ·rw[if_pos e];exact⟨fun _=>.inl e,fun _=>rfl⟩
    ·rw[if_neg e]
     by_cases e5:x=((aQ c 0 hP hk).sp.add M.s n).2.1
     ·rw[if_pos e5];exact⟨fun h=>(by cases h),fun h=>h.elim (fun h=>absurd h e) fun h=>absurd e5 h.2⟩
     ·rw[if_neg e5];exact⟨fun h=>.inr ⟨h,e5⟩,fun h=>h.elim (fun h=>absurd h e) fun h=>h.1⟩
   ·rcases(e4 x).1 hx with e|e
    ·rw[e];exact⟨h0,h1⟩
    ·exact h.rg x e.1
 ·have hg:bH (aQ c 0 hP hk).sp c M b d lev=false:=by unfold bH;rw[decide_eq_false hc];rfl
  refine(OE h.rc h.inv hd.1 hc).mono ?_;rintro e w' ⟨rfl,ho⟩;rw[hg];refine⟨0,none,0,0,_,Dr,rfl,fun e=>(by cases e),?_,ho.mono fun k hk=>hk.elim⟩;unfold fZ;rw[if_pos hc];exact h.keep ho
end
variable {K:aZ}{c:aM}{Z:ZN}{w:World}{o:cJ K c 0}{a:kK}{M:CM K.σ}{Dr:Nat→List Int}
theorem bA.mD (h:bA Z o a M Dr w):aE w a.x 17 (aO a.r.cb):=h.aq.af rfl
theorem bA.c18 (h:bA Z o a M Dr w):aE w a.x 18 (aO a.zz):=h.aq.af rfl
theorem bA.pw (h:bA Z o a M Dr w):aE w a.x 19 (aU a.a8 (cN c) (cN c)):=h.aq.af rfl
theorem bA.Kd (h:bA Z o a M Dr w):aw w a.x 20 (M.ops:Nat):=h.aq.af rfl
theorem bA.yh (h:bA Z o a M Dr w):aE w a.x 21 (.bool M.up):=h.aq.af rfl
theorem bA.Qn (h:bA Z o a M Dr w):aE w a.x 22 a.en:=h.aq.af rfl
theorem bA.cf (h:bA Z o a M Dr w){i:Nat}(hi:i<16):aw w a.x i (c.f i):=h.aq.af (Sp _ _ _ _ _ _ _ _ hi)
theorem bA.DD (h:bA Z o a M Dr w):∀j,j<cN c→∃A m c,a.dv j= .slice A m c:=fun j hj=>by
 obtain⟨A,cc,e⟩:=(h.fw j hj).shape;exact⟨A,_,cc,e⟩
section
theorem jn{P:Prop}(h:P:=by
 go_enter Tryz.func54,Tryz.ntmps54
 go_wp2_with fail;go_ret;exact⟨rfl,rfl⟩):P:=h
theorem sx{P:Prop}(h:P:=by
 clear hw
 by_cases ho:op=0
 ·have ho':(op != 0)=false:=by simpa using ho
  rw[if_neg (by simpa using ho)];clear ho;exact jn
 ·have ho':(op != 0)=true:=by simpa using ho
  rw[if_pos ho];clear ho;exact jn):P:=h
theorem jq{P:Prop}(h:P:=by
 rw[if_pos ao];exact jn):P:=h
theorem D6 (h:bA Z o a M Dr w)(i b:Int)(wr:Bool)(A:Option Addr)(m q:Nat):
 Calls Tryz.prog 54 #[aO a.x,ah i,.bool wr,ah b,.slice A m q] w fun e w'=>e= .returned (ah (dJ c M.S i wr b m))∧w=w':=by
 have s9:=h.pw;have x2:=h.cf (i:=2) aD;have x3:=h.cf (i:=3) aD;have jT:=h.nn;unfold dJ;rw[←jT.2.2];have vy:∀k:Nat,k<cN c→aw w a.a8 (k*5) ((M.S k).op):=fun k hk=>by
  exact mq
 generalize hlg:a.x=l at *;generalize cN c=n at *;generalize c.f 2=f2 at *;generalize c.f 3=f3 at *;have Qu:=ae vy;clear h vy hlg;have mX:=jT.2.1;clear jT
 by_cases i0:i<0
 ·exact jq
 by_cases i1:(n:Int)≤i
 ·exact jq
 rw[if_neg ao]
 by_cases b0:b<0
 ·exact jq
 by_cases b1:f2≤b
 ·exact jq
 rw[if_neg ao];obtain⟨k,rfl⟩:∃k:Nat,i=k:=⟨i.toNat,ao⟩;have hk:k<n:=ao;have y0:=Qu.out k hk;have oJ:(k:Int)<n:=ao;rw[Int.toNat_natCast];clear Qu i0;generalize(M.S k).op=op at *
 by_cases hw:wr=true∧(m:Int)≠f3
 ·obtain⟨rfl,hm⟩:=hw;have ZH:((m:Int) != f3)=true:=by simpa using hm
  rw[if_pos ⟨rfl,hm⟩];clear hm;exact jn
 ·rw[if_neg hw]
  cases wr with
  |false=>
   exact sx
  |true=>
   have hm:((m:Int) != f3)=false:=by
    by_cases e:(m:Int)=f3
    ·simpa using e
    ·exact absurd ⟨rfl,e⟩ hw
   exact sx
theorem OM (b lev:Int)(A:Option Addr)(n m:Nat)(w:World):
 Calls Tryz.prog 83 #[.agg (fY b (.slice A n m)),ah lev] w fun e w'=>e= .returned (.agg (NN b lev (.slice A n m)))∧ag az w w':=by
 have ho0:ag az w ((w.alloc (.cells (fY b (.slice A n m)) 102)).alloc (.cells lE 37)):=((ag.aj az w).alloc _).alloc _;have HO:=ae ho0;have HF:=ae<|(Box.fresh w 102 (fY b (.slice A n m))).alloc (.cells lE 37);have HM:=aB (Box ((w.alloc (.cells (fY b (.slice A n m)) 102)).alloc (.cells lE 37)) (w.heap.size+1) 37 lE) (by
  have:=Box.fresh (w.alloc (.cells (fY b (.slice A n m)) 102)) 37 lE;rwa [World.size_alloc]at this)
 have oK:=ae<|dm w.heap.size;clear ho0;unfold fY
 go_enter Tryz.func83,Tryz.ntmps83
 go_upto_region 1 with fail;change Code.wp _ _ _ _ ((w.alloc (.cells (fY b (.slice A n m)) 102)).alloc (.cells lE 37));generalize(w.alloc (.cells (fY b (.slice A n m)) 102)).alloc (.cells lE 37)=W at *;obtain⟨mb,fW⟩:∃mb,mb=w.heap.size+1:=⟨_,rfl⟩;have vF:=ae (show w.heap.size≤mb by omega);rw[←fW]at HM ⊢;clear fW oK;obtain⟨fb,gu⟩:∃fb,fb=w.heap.size:=⟨_,rfl⟩;rw[←gu]at HF ⊢;clear gu;have x0:aw W fb 0 b:=HF.af rfl;have x1:aE W fb 1 (.slice A n m):=HF.af rfl;go_wp2_with (refine fJ (NN b lev (.slice A n m)) HM (Nq b lev A n m) ?_)
 (try simp only[Exit.inBlock,Exit.then])
 refine bodyPost_ret (results_cell_row rfl _ _ mb _ (NN b lev (.slice A n m)) (0,0) _ rfl (HM.au _) Tryz.underlying37 rfl bZ) rfl ?_;exact⟨rfl,HO.au (.inr vF) _⟩
theorem MV (h:bA Z o a M Dr w){k:Nat}(hk:k<cN c):Calls Tryz.prog 48 #[aO a.x,ah k] w (adO Z k (M.S k) w):=by
 obtain⟨A,q,eD⟩:=(h.fw k hk).shape;have Kl:=ae<|h.fw k hk;have Yw:=aB (Z.B≤w.heap.size) (Nat.le_of_lt (Nat.lt_of_le_of_lt (h.lo a.x (.inr (.inl rfl))) h.aq.lt));rw[eD]at Kl;have HO:=ae<|(ag.aj az w).alloc (.cells lE 37);have HB:=ae<|Box.fresh w 37 lE;have H1:=ae<|h.keep HO;have mX:=h.nn.2.1;have oJ:(k:Int)<cN c:=ao;have jZ:=H1.pw;obtain⟨y0,y1,y2,y3,y4⟩:=bJ H1.slots hk eD;generalize cN c=n at *;generalize M.S k=s at *;generalize s.ed.length=dn at *;generalize ha:a.x=l at *;generalize a.a8=sb at *;clear h hk eD H1 ha
 go_enter Tryz.func48,Tryz.ntmps48
 go_upto_region 1 with fail;change Code.wp _ _ _ _ (w.alloc (.cells lE 37));obtain⟨mb,fW⟩:∃mb,mb=w.heap.size:=⟨_,rfl⟩;have HME:=aB (w.heap.size≤mb) (Nat.le_of_eq fW.symm);have kZ:=aB (Z.B≤mb) (by have:=Yw.out;omega);rw[←fW]at HB ⊢;clear fW;generalize w.alloc (.cells lE 37)=W1 at *;go_upto_region 2 with fail;have bp:ag az W1 (W1.alloc (.cells #[ah s.op,ah s.blk,ah s.lev,.bool s.wr,.slice A dn q] 54)):=(ag.aj az W1).alloc _;have cO:=ae<|Box.fresh W1 54 #[ah s.op,ah s.blk,ah s.lev,.bool s.wr,.slice A dn q];have nz:=ae<|bp.aq HB id;have bf:=ae<|HO.trans bp;change Code.wp _ _ _ _ (W1.alloc (.cells #[ah s.op,ah s.blk,ah s.lev,.bool s.wr,.slice A dn q] 54));clear bp HB HO jZ y0 y1 y2 y3 y4;generalize W1.alloc (.cells #[ah s.op,ah s.blk,ah s.lev,.bool s.wr,.slice A dn q] 54)=W2 at *;generalize W1.heap.size=tb at *;have y0:aw W2 tb 0 s.op:=cO.af rfl;have y1:aw W2 tb 1 s.blk:=cO.af rfl;have y2:aw W2 tb 2 s.lev:=cO.af rfl;have y3:aE W2 tb 3 (.bool s.wr):=cO.af rfl;have y4:aE W2 tb 4 (.slice A dn q):=cO.af rfl;have abg:=ae<|Kl.keep bf
 cases hw:s.wr with
 |false=>
  rw[hw]at y3;go_wp2_with (refine fJ (dW 1 k s.op s.blk s.lev aJ) nz (xV ..) ?_)
  (try simp only[Exit.inBlock,Exit.then])
  refine bodyPost_ret (results_cell_row rfl _ _ mb _ (dW 1 k s.op s.blk s.lev aJ) (0,0) _ rfl (nz.au _) Tryz.underlying37 rfl bZ) rfl ?_;exact⟨none,0,0,by rw[AR hw],by rw[xL hw];exact cX.nil _ _,bf.au (.inr HME) _⟩
 |true=>
  rw[hw]at y3;go_wp2_with (refine fJ (dW 2 k s.op s.blk s.lev (.slice A dn q)) nz (xV ..) ?_)
  (try simp only[Exit.inBlock,Exit.then])
  refine bodyPost_ret (results_cell_row rfl _ _ mb _ (dW 2 k s.op s.blk s.lev (.slice A dn q)) (0,0) _ rfl (nz.au _) Tryz.underlying37 rfl bZ) rfl ?_;exact⟨A,dn,q,by rw[xU hw],by rw[uE hw];exact abg.aA ((ag.aj (ar mb) W2).au (.inl rfl) _) (fun k hk e=>by rw[show k=mb from e];exact⟨kZ,.inr fun cs hb=>(nz.off hb aD) rfl⟩),bf.au (.inr HME) _⟩
theorem qE{P:Prop}(h:P:=by
 refine cG ?_;clear aH d0 d1 d2 d3;go_wp2
 go_roundw
 case rel=>exact HR
 case measure=>simp[intOf];have:=oH.out;omega):P:=h
theorem uy (h:bA Z o a M Dr w){b lev:Int}{v:Value}{d:List Int}(hd:cX Z w v d):
 Calls Tryz.prog 45 #[aO a.x,.agg (fY b v),ah lev] w fun e w'=>∃u,e= .returned u∧bg Z w' w.heap.size u (eZ (cN c) M.S b lev d)∧ag az w w':=by
 obtain⟨A,n,rfl⟩:=hd.shape;have HO:=ae<|(ag.aj az w).alloc (.cells (fY b (.slice A d.length n)) 102);have HF:=ae<|Box.fresh w 102 (fY b (.slice A d.length n));have H:=ae<|h.keep HO;have HD:=ae<|hd.keep HO;have mX:=h.nn.2.1;clear h hd;unfold fY
 go_enter Tryz.func45,Tryz.ntmps45
 go_upto_region 1 with fail;change Code.wp _ _ _ _ (w.alloc (.cells (fY b (.slice A d.length n)) 102));generalize w.alloc (.cells (fY b (.slice A d.length n)) 102)=W1 at *;obtain⟨fb,gu⟩:∃fb,fb=w.heap.size:=⟨_,rfl⟩;rw[←gu]at HF ⊢;have GG:=aB (w.heap.size=fb) (gu.symm);clear gu;go_wp2_with fail
 go_loopw [7] (fun i wr=>Ig (cN c) M.S (fun s=>ET s b) W1 i wr) (fun i _=>cN c - (intOf i).toNat)
 case atStart=>exact⟨0,dT _,rfl,fun j hj=>absurd hj ao,ag.aj _ _⟩
 case round=>
  obtain⟨k,hk,rfl,iQ,ho⟩:=hrel;have HN:=ae iQ;have H2:=ae<|H.keep ho;have lG:=ae<|ho.aq HF id;have bf:=ae ho;clear iQ ho;have s9:=H2.pw
  by_cases aY:k<cN c
  ·have pr:(k:Int)<cN c:=ao;have oH:=ae aY;obtain⟨Ad,nd,md,eD⟩:=H2.DD k aY;obtain⟨y0,y1,y2,y3,y4⟩:=bJ H2.slots aY eD;clear y2 y3 y4 eD;go_upto_region 4 with fail;have d0:aE wr.drew a.x 19 (aU a.a8 (cN c) (cN c)):=s9;have d1:aw wr.drew a.a8 (k*5) ((M.S k).op):=y0;have d2:aw wr.drew a.a8 (k*5+1) ((M.S k).blk):=y1;have d3:aw wr.drew fb 0 b:=lG.af rfl;clear s9 y0 y1
   by_cases c1:(M.S k).op=0
   ·have Z3:((M.S k).op != 0)=false:=by simpa using c1
    have HR:=aB (Ig (cN c) M.S (fun s=>ET s b) W1 (ah ((k:Int)+1)) wr.drew) (⟨k+1,oH,by simp,fun j hj=>by
     by_cases e:j=k
     ·rw[e];show(decide ((M.S k).op≠0)&&decide ((M.S k).blk=b))=false;rw[decide_eq_false (fun e=>e c1)];rfl
     ·exact HN j ao,bf.drew⟩)
    clear c1;go_upto_region 4 with fail;refine dU (fun w':World=>aE w' a.x 19 (aU a.a8 (cN c) (cN c))∧aw w' a.a8 (k*5) ((M.S k).op)∧aw w' a.a8 (k*5+1) ((M.S k).blk)∧aw w' fb 0 b) 21 fun aH=>?_
    refine yd [0,1,2,3,4,5,6,7,8,9,10,11,12,13,14,15,16,17,18,19,20] ?_;exact qE
   have Z3:((M.S k).op != 0)=true:=by simpa using c1
   by_cases c2:(M.S k).blk=b
   ·have Z0:((M.S k).blk==b)=true:=by simpa using c2
    have Vz:=aB (CI (cN c) M.S b=true) (FD oH c1 c2);clear c1 c2;go_upto_region 4 with fail;refine dU (fun w':World=>aE w' a.x 19 (aU a.a8 (cN c) (cN c))∧aw w' a.a8 (k*5) ((M.S k).op)∧aw w' a.a8 (k*5+1) ((M.S k).blk)∧aw w' fb 0 b) 21 fun aH=>?_
    refine bX [0,1,2,3,4,5,6,7,8,9,10,11,12,13,14,15,16,17,18,19,20] ?_;refine cG ?_;clear aH d0 d1 d2 d3;go_wp2;go_ret;exact⟨_,rfl,by unfold eZ;rw[if_pos Vz.out];exact bg.nil _ _ _,HO.trans bf.drew⟩
   ·have Z0:((M.S k).blk==b)=false:=by simpa using c2
    have HR:=aB (Ig (cN c) M.S (fun s=>ET s b) W1 (ah ((k:Int)+1)) wr.drew) (⟨k+1,oH,by simp,fun j hj=>by
     by_cases e:j=k
     ·rw[e];show(decide ((M.S k).op≠0)&&decide ((M.S k).blk=b))=false;rw[decide_eq_false c2,Bool.and_false]
     ·exact HN j ao,bf.drew⟩)
    clear c1 c2;go_upto_region 4 with fail;refine dU (fun w':World=>aE w' a.x 19 (aU a.a8 (cN c) (cN c))∧aw w' a.a8 (k*5) ((M.S k).op)∧aw w' a.a8 (k*5+1) ((M.S k).blk)∧aw w' fb 0 b) 21 fun aH=>?_
    refine bX [0,1,2,3,4,5,6,7,8,9,10,11,12,13,14,15,16,17,18,19,20] ?_;exact qE
  ·obtain rfl:k=cN c:=ao;have Vz:=aB (CI (cN c) M.S b=false) (Ey HN);have jL:=ae<|HD.keep bf;have aX:=ae<|HO.trans bf;have MC:=ae<|OM b lev A d.length n wr;unfold fY at MC;go_wp2_with (first|(refine fH (fY b (.slice A d.length n)) lG Tryz.underlying102 ?_)|(go_at_call 83;refine MC.mono ?_;unfold NN;rintro e W2 ⟨rfl,bp⟩));go_ret;have bu:ag az W2 (W2.alloc (.cells (NN b lev (.slice A d.length n)) 37)):=(ag.aj az W2).alloc _;exact⟨_,rfl,by unfold eZ;rw[if_neg (by rw[Vz.out];decide)];exact bg.one (MI b lev d) (S2 b lev _ d) ((jL.keep bp).keep bu) rfl (Nat.le_trans aX.size bp.size),(aX.trans bp).trans bu⟩
end
section
variable {K:aZ}{c:aM}{Z:ZN}{w w':World}{S:Nat→Prop}{o:cJ K c 0}{a:kK}{M:CM K.σ}{Dr:Nat→List Int}
def mL (o:cJ K c 0)(a:kK):Nat→Prop:=fun k=>cR o a k∨(0<c.h.length∧aK a.pz k)
theorem bA.uU (h:bA Z o a M Dr w){k:Nat}(hk:mL o a k):k<w.heap.size:=by
 rcases hk with hk|⟨h0,hk⟩
 ·exact h.kB hk
 ·obtain⟨A,n,m,e,h1,_⟩:=h.bw;exact h1.lt h0 (e▸hk)
theorem bA.dC (h:bA Z o a M Dr w)(ho:ag S w w')(hS:Wr Z S w)(hX:∀k,mL o a k→¬S k)(hT:∀k,S k→∃t cs,Box w k t cs∧t≠3∧t≠5∧t≠146):bA Z o a M Dr w':=
 h.off ho hS (fun k hk=>hX k (.inl hk)) (fun k cs hk=>by
  obtain⟨t,cs',hb,h1,h2,h3⟩:=hT k hk;exact⟨fun e=>hb.off e h1 rfl,fun e=>hb.off e h2 rfl,fun e=>hb.off e h3 rfl⟩) fun h0 k hk=>hX k (.inr ⟨h0,hk⟩)
theorem bA.zb (h:bA Z o a M Dr w):Z.B≤w.heap.size:=Nat.le_of_lt (Nat.lt_of_le_of_lt (h.lo a.x (.inr (.inl rfl))) h.aq.lt)
def Ht (Z:ZN)(o:cJ K c 0)(a:kK)(M:CM K.σ)(b:Int)(d:List Int)(w:World)(e:Ending)(w':World):Prop:=
 ∃v uO,e= .returned v∧bg Z w' w.heap.size v (ea K.sp c (cN c) M b d)∧bA Z o a (df K.sp c M b d) uO w'∧ag (cR o a) w w'
end
section
variable {Z:ZN}{w:World}{c:aM}{hP:cK c}{hk:0<3}{o:cJ (aQ c 0 hP hk) c 0}{a:kK}{M:CM (aQ c 0 hP hk).σ}{Dr:Nat→List Int}
theorem bA.KY (h:bA Z o a M Dr w){b lev:Int}{d:List Int}(hg:bH (aQ c 0 hP hk).sp c M b d lev=true):((aQ c 0 hP hk).sp.add M.s b).2.1∈(aQ c 0 hP hk).sp.all M.s:=by
 unfold bH at hg;rw[Bool.and_eq_true]at hg;obtain⟨ht,hlen,h0,h1⟩:=kr (of_decide_eq_true hg.1);have h2:=h.right.p2;obtain⟨i,w0,hR⟩:=h.gd;rcases((aQ c 0 hP hk).oc i).GO hR h0 ao (pd ht)with⟨e1,_⟩|⟨_,e2,_⟩
 ·rw[e1]at hg;exact absurd hg.2 aD
 ·exact e2
theorem sy{P:Prop}(h:P:=by
 rw[h4]at x4;obtain⟨A9,n9,m9,F5,_⟩:=id H6.bw;have HTR:=ae<|fun(w':World) (hw:ag az W6 w')=>Ci (H6.keep hw) vb 1;rw[F5]at HTR;have JY:=aB (∀j v,(ak c (.slice A9 n9 m9)).toList[j]? =some v→aE W6 a.x (0+j) v) (fun j v hj=>by
  rw[Nat.zero_add];refine H6.aq.af ?_;rw[F5];unfold br;rw[Array.getElem?_append_left (by have:=(List.getElem?_eq_some_iff.1 hj).1;simpa using this),←Array.getElem?_toList];exact hj)
 clear F5;go_upto_region 12 with fail;have k0:=fun j v hj=>((ag.aj az W6).drew).cell (JY j v hj) id
 have k1:aw W6.drew gb 0 vb:=oP.af rfl;have k2:aE W6.drew gb 1 (.slice A4 n4 m4):=oP.af rfl;go_upto_region 12 with fail;refine oa (fun w':World=>(∀j v,(ak c (.slice A9 n9 m9)).toList[j]? =some v→aE w' a.x (0+j) v)∧aw w' gb 0 vb∧aE w' gb 1 (.slice A4 n4 m4)) 12 ?_ ?_
 ·exact⟨k0,k1,k2⟩
 intro aH;refine bX [0,1,2,3,4,5] ?_;refine cj (i:=6) (v:=.agg (ak c (.slice A9 n9 m9))) bZ rfl bZ (fun _ _ _ h=>h) (yieldsIf_load_mid (by rfl) 25 _ rfl a.x 0 rfl (ak c (.slice A9 n9 m9)).toList _ (fun w hw j v hj=>hw.1 j v hj) Tryz.underlying25 rfl bZ) (by assumption) ?_;refine bX [7,8,9] ?_;refine cM 10 fun Kc hK=>?_
 go_simp;refine(HTR W6.drew ((ag.aj az W6).drew)).mono ?_;rintro e W8 ⟨rfl,eT⟩;have AZ:ag az W6 W8:=((ag.aj az W6).drew).trans eT;have H8:=ae<|H6.keep AZ;have abf:=ae<|JU.keep AZ;have R2:=ae<|AZ.aq oP id;have ix:=ae<|cZ.aC AZ fun _ h=>h.elim;have k0:=fun j v hj=>AZ.cell (JY j v hj) id
 have k1:aw W8 gb 0 vb:=R2.af rfl;have k2:aE W8 gb 1 (.slice A4 n4 m4):=R2.af rfl;clear eT AZ;refine jS hK ?_ fun aH=>?_
 ·exact⟨k0,k1,k2⟩
 clear hK;refine cM 11 fun Kc hK=>?_
 go_simp;have nQ:=uy (b:=vb) (lev:=wP c vb 1) H8 abf;rw[FB]at nQ;unfold fY at nQ;refine nQ.mono ?_;rintro e W7 ⟨u7,rfl,pD,dL⟩;have ej:=ae<|pD.low ix.size;have H7:=ae<|H8.keep dL;have fC:=ae<|ix.aC dL fun _ h=>h.elim;have k0:=fun j v hj=>dL.cell (k0 j v hj) id
 have k1:=dL.cell k1 id;have k2:=dL.cell k2 id;clear nQ pD dL;refine jS hK ?_ fun aH=>?_
 ·exact⟨k0,k1,k2⟩
 clear hK;refine cG ?_;clear aH k0 k1 k2;go_wp2;go_ret;exact⟨u7,D4,rfl,by rw[JX.out,zi hg h4,←Z7.out];exact ej,by rw[DN.out];exact H7,fC⟩):P:=h
theorem rf{P:Prop}(h:P:=by
 rw[hg]at z2 oP;obtain⟨EJ,eD⟩:=Kj.out hg;rw[←EJ]at eD;have Z7:=ae EJ;have JU:=ae eD;clear EJ eD Kj
 by_cases h4:c.f 4=2
 ·exact sy
 ·have h4':(c.f 4 != 2)=true:=by simpa using h4
  go_wp2;go_ret;exact⟨_,D4,rfl,by rw[JX.out,Cp h4];exact bg.nil _ _ _,by rw[DN.out];exact H6,cZ⟩):P:=h
theorem ju{P:Prop}(h:P:=by
 rw[hg]at z2 oP;go_wp2;go_ret;exact⟨_,D4,rfl,by rw[JX.out,IB hg];exact bg.nil _ _ _,by rw[DN.out];exact H6,cZ⟩):P:=h
theorem FM (h:bA Z o a M Dr w){n:Nat}{v:Value}{d:List Int}(hn:(n:Int)<c.f 2)(hd:cX Z w v d)(cw:(aQ c 0 hP hk).sp.eE M.s<bN)(h5:c.f 5≠1):
 Calls Tryz.prog 53 #[aO a.x,.agg (fY n v)] w (Ht Z o a M n d w):=by
 obtain⟨A,q,rfl⟩:=hd.shape;have bL:=ae<|fun k (hk:cR o a k)=>h.kB hk;have iA:=ae<|fun k (hk:mL o a k)=>h.uU hk;have kZ:=ae h.zb;have tJ:=ae cw;have HN:=ae hn;have bu:ag az w (w.alloc (.cells (fY n (.slice A d.length q)) 102)):=(ag.aj az w).alloc _;have bn:=ae<|bu.mono (S':=cR o a) fun k hk=>hk.elim;have jE:=ae<|Box.fresh w 102 (fY n (.slice A d.length q));have H3:=ae<|h.keep bu;have tf:=ae<|hd.keep bu;have MA:=ae h5;have x5:=H3.cf (i:=5) aD;have QZ:(c.f 5==1)=false:=by simpa using h5
 have wD:df (aQ c 0 hP hk).sp c M n d=fZ (aQ c 0 hP hk).sp c M n d 0:=by unfold df;rw[if_neg h5]
 have QR:ea (aQ c 0 hP hk).sp c (cN c) M n d=mG (aQ c 0 hP hk).sp c (cN c) M n d 0:=by unfold ea;rw[if_neg h5]
 have DN:=ae wD;have JX:=ae QR;clear h hd cw hn bu h5 wD QR;unfold fY
 go_enter Tryz.func53,Tryz.ntmps53
 go_upto_region 2 with fail;change Code.wp _ _ _ _ (w.alloc (.cells (fY n (.slice A d.length q)) 102));have GF:=aB (∀k,cR o a k→k≠w.heap.size) (fun k hk e=>by have:=bL.out k hk;omega);have vP:=aB (w.heap.size<(w.alloc (.cells (fY n (.slice A d.length q)) 102)).heap.size) bh;generalize w.alloc (.cells (fY n (.slice A d.length q)) 102)=W3 at *;obtain⟨fb,gu⟩:∃fb,fb=w.heap.size:=⟨_,rfl⟩;rw[←gu]at jE GF vP ⊢;clear gu;go_upto_region 9 with fail;have DK:=ae<|fun(w':World) (hw:ag az W3 w')=>Iv (b:=n) (lev:=0) (H3.keep hw) (tf.keep hw) tJ;have k0:aE W3.drew a.x 17 (aO a.r.cb):=H3.mD;have k1:aw W3.drew fb 0 n:=jE.af rfl;have k2:aE W3.drew fb 1 (.slice A d.length q):=jE.af rfl;have wY:=ae bn.size;go_upto_region 9 with fail;refine dU (fun w':World=>aE w' a.x 17 (aO a.r.cb)∧aw w' fb 0 n∧aE w' fb 1 (.slice A d.length q)) 8 fun aH=>?_
 refine bX [0,1,2,3,4,5] ?_;refine il (i:=6) (j:=7) rfl rfl bZ (fun Kc hK=>?_) (fun Kc hK=>?_)
 ·go_simp;refine(DK W3.drew ((ag.aj az W3).drew)).mono ?_;rintro e W4 ⟨vb,A4,n4,m4,cd,D4,rfl,QQ,Bb,cI⟩;have Kk:=ae QQ;have H4:=ae Bb;have bK:=aB (ag (cR o a) W3 W4) ((((ag.aj az W3).drew).mono (S':=cR o a) fun k hk=>hk.elim).aC cI fun k hk=>.inl (.inl hk));have kg:=ae<|bK.aq jE fun e=>GF _ e rfl;have k0:aE W4 a.x 17 (aO a.r.cb):=H4.mD;have k1:aw W4 fb 0 n:=kg.af rfl;have k2:aE W4 fb 1 (.slice A d.length q):=kg.af rfl;clear QQ Bb cI;refine eh hK fun aH=>?_
  clear hK;refine cM 7 fun Kc hK=>?_
  go_simp;have dq:ag az W4 (W4.alloc (.cells (dE 0 aJ false 0) 165)):=(ag.aj az W4).alloc _;have nE:=ae<|Box.fresh W4 165 (dE 0 aJ false 0);have vH:=ae<|fun hg=>And.intro (Kk hg).1 ((Kk hg).2.keep dq);have H5:=ae<|H4.keep dq;have iT:=ae<|dq.aq kg id;have bM:=ae<|bK.aC dq fun _ h=>h.elim;have kH:=aB (w.heap.size≤W4.heap.size) (Nat.le_trans wY bK.size);have Bw:=aB (W3.heap.size≤W4.heap.size) (bK.size);change Kc _ (W4.alloc (.cells (dE 0 aJ false 0) 165));clear dq Kk H4 kg bK;generalize W4.alloc (.cells (dE 0 aJ false 0) 165)=W5 at *;generalize W4.heap.size=gb at *;have k0:aE W5 a.x 17 (aO a.r.cb):=H5.mD;have k1:aw W5 fb 0 n:=iT.af rfl;have k2:aE W5 fb 1 (.slice A d.length q):=iT.af rfl;refine eh hK fun aH=>?_
  clear hK;refine cG ?_;clear k0 k1 k2 aH;go_upto_region 10 with(refine fJ (dE vb (.slice A4 n4 m4) (bH (aQ c 0 hP hk).sp c M n d 0) cd) nE (jd ..) ?_);have j6:ag (ar gb) W5 (W5.setRow gb (dE vb (.slice A4 n4 m4) (bH (aQ c 0 hP hk).sp c M n d 0) cd)):=(ag.aj (ar gb) W5).au (.inl rfl) _;have iL:Wr Z (ar gb) W5:=fun k hk e=>by rw[show k=gb from e];exact⟨Nat.le_trans kZ kH,.inr fun cs hb=>(nE.off hb aD) rfl⟩
  have oP:=ae<|nE.au (dE vb (.slice A4 n4 m4) (bH (aQ c 0 hP hk).sp c M n d 0) cd);have H6:=ae<|H5.dC j6 iL (fun k hk e=>by have:=iA.out k hk;have:=kH.out;have e:k=gb:=e;omega) fun k hk=>⟨_,_,(show k=gb from hk)▸nE.out,aD,aD,aD⟩;have Kj:=ae<|fun hg=>And.intro (vH hg).1 ((vH hg).2.aA j6 iL);have cZ:=aB (ag (cR o a) w (W5.setRow gb (dE vb (.slice A4 n4 m4) (bH (aQ c 0 hP hk).sp c M n d 0) cd))) ((bn.trans bM).aC j6 fun k hk=>.inr dQ);clear j6 iL nE H5 vH iT bM;generalize W5.setRow gb (dE vb (.slice A4 n4 m4) (bH (aQ c 0 hP hk).sp c M n d 0) cd)=W6 at *;have x4:=H6.cf (i:=4) aD;have z2:aE W6 gb 2 (.bool (bH (aQ c 0 hP hk).sp c M n d 0)):=oP.af rfl
  cases hg:bH (aQ c 0 hP hk).sp c M n d 0 with
  |false=>
   exact ju
  |true=>
   exact rf
 ·go_simp;have AB:ag az W3 (W3.drew.alloc (.cells (dE 0 aJ false 0) 165)):=((ag.aj az W3).drew).alloc _;have Bv:=aB (Box (W3.drew.alloc (.cells (dE 0 aJ false 0) 165)) W3.heap.size 165 (dE 0 aJ false 0)) (Box.fresh W3.drew 165 (dE 0 aJ false 0));have gZ:=ae AB;have kg:=ae<|AB.aq jE id;have kH:=aB (w.heap.size≤W3.heap.size) (wY);have Bw:=aB (W3.heap.size≤W3.heap.size) (dm _);have k0:aE (W3.drew.alloc (.cells (dE 0 aJ false 0) 165)) a.x 17 (aO a.r.cb):=(H3.keep AB).mD;change Kc _ (W3.drew.alloc (.cells (dE 0 aJ false 0) 165));clear AB
  try rw[show W3.drew.heap.size=W3.heap.size from rfl]
  generalize W3.drew.alloc (.cells (dE 0 aJ false 0) 165)=W4 at *;generalize W3.heap.size=gb at *;have k1:aw W4 fb 0 n:=kg.af rfl;have k2:aE W4 fb 1 (.slice A d.length q):=kg.af rfl;refine eh hK fun aH=>?_
  clear hK;refine cM 6 fun Kc hK=>?_
  go_simp;refine(DK W4 gZ).mono ?_;rintro e W5 ⟨vb,A4,n4,m4,cd,D4,rfl,QP,Gn,cA⟩;have vH:=ae QP;have H5:=ae Gn;have nE:=ae (cA.aq Bv fun e=>by have:=bL.out _ (.inl e);have:=kH.out;omega);have iT:=ae<|cA.aq kg fun e=>GF _ (.inl e) rfl;have bM:=aB (ag (cR o a) W3 W5) ((gZ.mono (S':=cR o a) fun k hk=>hk.elim).aC cA fun k hk=>.inl (.inl hk));have k0:aE W5 a.x 17 (aO a.r.cb):=H5.mD;have k1:aw W5 fb 0 n:=iT.af rfl;have k2:aE W5 fb 1 (.slice A d.length q):=iT.af rfl;clear QP Gn cA Bv gZ kg;refine eh hK fun aH=>?_
  clear hK;refine cG ?_;clear k0 k1 k2 aH;go_upto_region 10 with(refine fJ (dE vb (.slice A4 n4 m4) (bH (aQ c 0 hP hk).sp c M n d 0) cd) nE (jd ..) ?_);have j6:ag (ar gb) W5 (W5.setRow gb (dE vb (.slice A4 n4 m4) (bH (aQ c 0 hP hk).sp c M n d 0) cd)):=(ag.aj (ar gb) W5).au (.inl rfl) _;have iL:Wr Z (ar gb) W5:=fun k hk e=>by rw[show k=gb from e];exact⟨Nat.le_trans kZ kH,.inr fun cs hb=>(nE.off hb aD) rfl⟩
  have oP:=ae<|nE.au (dE vb (.slice A4 n4 m4) (bH (aQ c 0 hP hk).sp c M n d 0) cd);have H6:=ae<|H5.dC j6 iL (fun k hk e=>by have:=iA.out k hk;have:=kH.out;have e:k=gb:=e;omega) fun k hk=>⟨_,_,(show k=gb from hk)▸nE.out,aD,aD,aD⟩;have Kj:=ae<|fun hg=>And.intro (vH hg).1 ((vH hg).2.aA j6 iL);have cZ:=aB (ag (cR o a) w (W5.setRow gb (dE vb (.slice A4 n4 m4) (bH (aQ c 0 hP hk).sp c M n d 0) cd))) ((bn.trans bM).aC j6 fun k hk=>.inr dQ);clear j6 iL nE H5 vH iT bM;generalize W5.setRow gb (dE vb (.slice A4 n4 m4) (bH (aQ c 0 hP hk).sp c M n d 0) cd)=W6 at *;have x4:=H6.cf (i:=4) aD;have z2:aE W6 gb 2 (.bool (bH (aQ c 0 hP hk).sp c M n d 0)):=oP.af rfl
  cases hg:bH (aQ c 0 hP hk).sp c M n d 0 with
  |false=>
   exact ju
  |true=>
   exact rf
theorem qx{P:Prop}(h:P:=by
 rw[hg]at z2 oP;obtain⟨EJ,eD⟩:=Kj.out hg;rw[←EJ]at eD;have Z7:=ae EJ;have JU:=ae eD;clear EJ eD Kj;have h4:c.f 4=2:=H4M.out;exact sy):P:=h
theorem Ds (h:bA Z o a M Dr w){n:Nat}{v:Value}{d:List Int}(hn:(n:Int)<c.f 2)(hd:cX Z w v d)(cw:(aQ c 0 hP hk).sp.eE M.s<bN)(h5:c.f 5=1):
 Calls Tryz.prog 53 #[aO a.x,.agg (fY n v)] w (Ht Z o a M n d w):=by
 have H4M:=aB (c.f 4=2) (by have:=h.right.pp;omega);obtain⟨A,q,rfl⟩:=hd.shape;have bL:=ae<|fun k (hk:cR o a k)=>h.kB hk;have iA:=ae<|fun k (hk:mL o a k)=>h.uU hk;have kZ:=ae h.zb;have tJ:=ae cw;have HN:=ae hn;have bu:ag az w (w.alloc (.cells (fY n (.slice A d.length q)) 102)):=(ag.aj az w).alloc _;have bn:=ae<|bu.mono (S':=cR o a) fun k hk=>hk.elim;have jE:=ae<|Box.fresh w 102 (fY n (.slice A d.length q));have H3:=ae<|h.keep bu;have tf:=ae<|hd.keep bu;have MA:=ae h5;have x5:=H3.cf (i:=5) aD;rw[h5]at x5;have wD:df (aQ c 0 hP hk).sp c M n d=if M.U.v n≠1 then M else fZ (aQ c 0 hP hk).sp c M n d 1:=by unfold df;rw[if_pos h5]
 have QR:ea (aQ c 0 hP hk).sp c (cN c) M n d=if M.U.v n≠1 then eZ (cN c) M.S n (if M.U.v n=0 then 4 else M.U.v n) d else mG (aQ c 0 hP hk).sp c (cN c) M n d 1:=by unfold ea;rw[if_pos h5]
 have DN:=ae wD;have JX:=ae QR;clear h hd cw hn bu h5 wD QR;unfold fY
 go_enter Tryz.func53,Tryz.ntmps53
 go_upto_region 2 with fail;change Code.wp _ _ _ _ (w.alloc (.cells (fY n (.slice A d.length q)) 102));have GF:=aB (∀k,cR o a k→k≠w.heap.size) (fun k hk e=>by have:=bL.out k hk;omega);have vP:=aB (w.heap.size<(w.alloc (.cells (fY n (.slice A d.length q)) 102)).heap.size) bh;generalize w.alloc (.cells (fY n (.slice A d.length q)) 102)=W3 at *;obtain⟨fb,gu⟩:∃fb,fb=w.heap.size:=⟨_,rfl⟩;rw[←gu]at jE GF vP ⊢;clear gu;go_upto_region 4 with fail;have k0:aE W3.drew a.x 18 (aO a.zz):=H3.c18;have k1:aw W3.drew fb 0 n:=jE.af rfl;have UL:=aB (Box W3.drew a.zz 140 _) (H3.yk);have HID:=aB (dD W3.drew Z.B a.sv (gT M.U)) (H3.its);have JS:=ae (show(gT M.U).length≤100 by rw[bS];have:=H3.oq.len;omega)
 by_cases hm:(n:Int)∈M.U.L
 ·obtain⟨p,hp,NH,hpn⟩:=xQ hm;have ui:=ae (pV (b:=n) (q:=p) UL HID JS (by rw[bS];exact hp) (by rw[fR M.U hp];exact NH) fun j hj=>by rw[fR M.U ao];exact hpn j hj);obtain⟨g,cg,ZA,_,UD⟩:=dD.cell HID (k:=p) (by rw[bS];exact hp);rw[fR M.U hp,NH]at UD;rw[bS]at ZA;have hp0:(0:Int)≤(p:Int):=Int.natCast_nonneg p;have hpd:decide ((p:Int)<0)=false:=by simp
  have hpl:(p:Int)<(M.U.L.length:Int):=ao;have tm:=aB (M.U.v n≠0) (by have:=(H3.oq.lev _ hm).1;omega);have k3:aE W3.drew a.zz 0 (.slice (some ⟨g,0,none⟩) M.U.L.length cg):=Eq.trans (UL.af rfl) (congrArg some ZA);clear NH hpn hm;go_upto_region 4 with fail;refine dU (fun w':World=>aE w' a.x 18 (aO a.zz)∧aw w' fb 0 n) 7 fun aH=>?_
  refine bX [0,1,2,3,4,5] ?_;refine cM 6 fun Kc hK=>?_
  go_simp;refine ui.mono ?_;rintro e W9 ⟨rfl,rfl⟩;refine eh hK fun aH=>?_
  clear hK;refine cG ?_;clear aH
  by_cases hv:M.U.v n≠1
  ·have Uw:(M.U.v n != 1)=true:=by simpa using hv
   have nQ:=uy (b:=n) (lev:=M.U.v n) (H3.keep (((ag.aj az W3).drew).drew)) (tf.keep (((ag.aj az W3).drew).drew));unfold fY at nQ;have nQ:=ae nQ;go_upto_region 8 with fail;have k0:aE W3.drew.drew a.x 18 (aO a.zz):=k0;have k1:aw W3.drew.drew fb 0 n:=k1;have k2:aE W3.drew.drew fb 1 (.slice A d.length q):=jE.af rfl;have k3:aE W3.drew.drew a.zz 0 (.slice (some ⟨g,0,none⟩) M.U.L.length cg):=k3;have k4:aw W3.drew.drew g (p*2+1) (M.U.v n):=UD;go_upto_region 8 with fail;refine dU (fun w':World=>aE w' a.x 18 (aO a.zz)∧aw w' fb 0 n∧aE w' fb 1 (.slice A d.length q)∧aE w' a.zz 0 (.slice (some ⟨g,0,none⟩) M.U.L.length cg)∧aw w' g (p*2+1) (M.U.v n)) 14 fun aH=>?_
   refine bX [0,1,2,3,4,5,6,7,8,9,10,11,12] ?_;refine cM 13 fun Kc hK=>?_
   go_simp;refine nQ.mono ?_;rintro e W7 ⟨u7,rfl,pD,dL⟩;have k0:=dL.cell k0 id;have k1:=dL.cell k1 id;have k2:=dL.cell k2 id;have k3:=dL.cell k3 id;have k4:=dL.cell k4 id;have ej:=ae<|pD.low (bn.drew).size;have H7:=ae<|(H3.keep (((ag.aj az W3).drew).drew)).keep dL;have fC:=ae<|((bn.drew).drew).aC dL fun _ h=>h.elim;clear pD dL;refine eh hK fun aH=>?_
   clear hK;refine cG ?_;clear aH k0 k1 k2 k3 k4;go_wp2;go_ret;exact⟨u7,Dr,rfl,by rw[JX.out,if_pos hv,if_neg tm.out];exact ej,by rw[DN.out,if_pos hv];exact H7,fC⟩
  ·have Zx:M.U.v n=1:=ao;rw[if_neg hv]at DN JX;rw[Zx]at UD;go_upto_region 9 with fail;have jE:=ae<|jE.drew;have H3:=ae<|H3.keep ((ag.aj az W3).drew);have tf:=ae<|tf.keep ((ag.aj az W3).drew);have bn:=ae<|bn.drew;have vP:Hid (fb<W3.drew.heap.size):=vP;clear UL HID k0 k1 k3 UD;generalize W3.drew=W3 at *;have DK:=ae<|fun(w':World) (hw:ag az W3 w')=>Iv (b:=n) (lev:=1) (H3.keep hw) (tf.keep hw) tJ;have k0:aE W3.drew a.x 17 (aO a.r.cb):=H3.mD;have k1:aw W3.drew fb 0 n:=jE.af rfl;have k2:aE W3.drew fb 1 (.slice A d.length q):=jE.af rfl;have wY:=ae bn.size;go_upto_region 9 with fail;refine dU (fun w':World=>aE w' a.x 17 (aO a.r.cb)∧aw w' fb 0 n∧aE w' fb 1 (.slice A d.length q)) 8 fun aH=>?_
   refine bX [0,1,2,3,4,5] ?_;refine il (i:=6) (j:=7) rfl rfl bZ (fun Kc hK=>?_) (fun Kc hK=>?_)
   ·go_simp;refine(DK W3.drew ((ag.aj az W3).drew)).mono ?_;rintro e W4 ⟨vb,A4,n4,m4,cd,D4,rfl,QQ,Bb,cI⟩;have Kk:=ae QQ;have H4:=ae Bb;have bK:=aB (ag (cR o a) W3 W4) ((((ag.aj az W3).drew).mono (S':=cR o a) fun k hk=>hk.elim).aC cI fun k hk=>.inl (.inl hk));have kg:=ae<|bK.aq jE fun e=>GF _ e rfl;have k0:aE W4 a.x 17 (aO a.r.cb):=H4.mD;have k1:aw W4 fb 0 n:=kg.af rfl;have k2:aE W4 fb 1 (.slice A d.length q):=kg.af rfl;clear QQ Bb cI;refine eh hK fun aH=>?_
    clear hK;refine cM 7 fun Kc hK=>?_
    go_simp;have dq:ag az W4 (W4.alloc (.cells (dE 0 aJ false 0) 165)):=(ag.aj az W4).alloc _;have nE:=ae<|Box.fresh W4 165 (dE 0 aJ false 0);have vH:=ae<|fun hg=>And.intro (Kk hg).1 ((Kk hg).2.keep dq);have H5:=ae<|H4.keep dq;have iT:=ae<|dq.aq kg id;have bM:=ae<|bK.aC dq fun _ h=>h.elim;have kH:=aB (w.heap.size≤W4.heap.size) (Nat.le_trans wY bK.size);have Bw:=aB (W3.heap.size≤W4.heap.size) (bK.size);change Kc _ (W4.alloc (.cells (dE 0 aJ false 0) 165));clear dq Kk H4 kg bK;generalize W4.alloc (.cells (dE 0 aJ false 0) 165)=W5 at *;generalize W4.heap.size=gb at *;have k0:aE W5 a.x 17 (aO a.r.cb):=H5.mD;have k1:aw W5 fb 0 n:=iT.af rfl;have k2:aE W5 fb 1 (.slice A d.length q):=iT.af rfl;refine eh hK fun aH=>?_
    clear hK;refine cG ?_;clear k0 k1 k2 aH;go_upto_region 10 with(refine fJ (dE vb (.slice A4 n4 m4) (bH (aQ c 0 hP hk).sp c M n d 1) cd) nE (jd ..) ?_);have j6:ag (ar gb) W5 (W5.setRow gb (dE vb (.slice A4 n4 m4) (bH (aQ c 0 hP hk).sp c M n d 1) cd)):=(ag.aj (ar gb) W5).au (.inl rfl) _;have iL:Wr Z (ar gb) W5:=fun k hk e=>by rw[show k=gb from e];exact⟨Nat.le_trans kZ kH,.inr fun cs hb=>(nE.off hb aD) rfl⟩
    have oP:=ae<|nE.au (dE vb (.slice A4 n4 m4) (bH (aQ c 0 hP hk).sp c M n d 1) cd);have H6:=ae<|H5.dC j6 iL (fun k hk e=>by have:=iA.out k hk;have:=kH.out;have e:k=gb:=e;omega) fun k hk=>⟨_,_,(show k=gb from hk)▸nE.out,aD,aD,aD⟩;have Kj:=ae<|fun hg=>And.intro (vH hg).1 ((vH hg).2.aA j6 iL);have cZ:=aB (ag (cR o a) w (W5.setRow gb (dE vb (.slice A4 n4 m4) (bH (aQ c 0 hP hk).sp c M n d 1) cd))) ((bn.trans bM).aC j6 fun k hk=>.inr dQ);clear j6 iL nE H5 vH iT bM;generalize W5.setRow gb (dE vb (.slice A4 n4 m4) (bH (aQ c 0 hP hk).sp c M n d 1) cd)=W6 at *;have x4:=H6.cf (i:=4) aD;have z2:aE W6 gb 2 (.bool (bH (aQ c 0 hP hk).sp c M n d 1)):=oP.af rfl
    cases hg:bH (aQ c 0 hP hk).sp c M n d 1 with
    |false=>
     exact ju
    |true=>
     exact qx
   ·go_simp;have AB:ag az W3 (W3.drew.alloc (.cells (dE 0 aJ false 0) 165)):=((ag.aj az W3).drew).alloc _;have Bv:=aB (Box (W3.drew.alloc (.cells (dE 0 aJ false 0) 165)) W3.heap.size 165 (dE 0 aJ false 0)) (Box.fresh W3.drew 165 (dE 0 aJ false 0));have gZ:=ae AB;have kg:=ae<|AB.aq jE id;have kH:=aB (w.heap.size≤W3.heap.size) (wY);have Bw:=aB (W3.heap.size≤W3.heap.size) (dm _);have k0:aE (W3.drew.alloc (.cells (dE 0 aJ false 0) 165)) a.x 17 (aO a.r.cb):=(H3.keep AB).mD;change Kc _ (W3.drew.alloc (.cells (dE 0 aJ false 0) 165));clear AB
    try rw[show W3.drew.heap.size=W3.heap.size from rfl]
    generalize W3.drew.alloc (.cells (dE 0 aJ false 0) 165)=W4 at *;generalize W3.heap.size=gb at *;have k1:aw W4 fb 0 n:=kg.af rfl;have k2:aE W4 fb 1 (.slice A d.length q):=kg.af rfl;refine eh hK fun aH=>?_
    clear hK;refine cM 6 fun Kc hK=>?_
    go_simp;refine(DK W4 gZ).mono ?_;rintro e W5 ⟨vb,A4,n4,m4,cd,D4,rfl,QP,Gn,cA⟩;have vH:=ae QP;have H5:=ae Gn;have nE:=ae (cA.aq Bv fun e=>by have:=bL.out _ (.inl e);have:=kH.out;omega);have iT:=ae<|cA.aq kg fun e=>GF _ (.inl e) rfl;have bM:=aB (ag (cR o a) W3 W5) ((gZ.mono (S':=cR o a) fun k hk=>hk.elim).aC cA fun k hk=>.inl (.inl hk));have k0:aE W5 a.x 17 (aO a.r.cb):=H5.mD;have k1:aw W5 fb 0 n:=iT.af rfl;have k2:aE W5 fb 1 (.slice A d.length q):=iT.af rfl;clear QP Gn cA Bv gZ kg;refine eh hK fun aH=>?_
    clear hK;refine cG ?_;clear k0 k1 k2 aH;go_upto_region 10 with(refine fJ (dE vb (.slice A4 n4 m4) (bH (aQ c 0 hP hk).sp c M n d 1) cd) nE (jd ..) ?_);have j6:ag (ar gb) W5 (W5.setRow gb (dE vb (.slice A4 n4 m4) (bH (aQ c 0 hP hk).sp c M n d 1) cd)):=(ag.aj (ar gb) W5).au (.inl rfl) _;have iL:Wr Z (ar gb) W5:=fun k hk e=>by rw[show k=gb from e];exact⟨Nat.le_trans kZ kH,.inr fun cs hb=>(nE.off hb aD) rfl⟩
    have oP:=ae<|nE.au (dE vb (.slice A4 n4 m4) (bH (aQ c 0 hP hk).sp c M n d 1) cd);have H6:=ae<|H5.dC j6 iL (fun k hk e=>by have:=iA.out k hk;have:=kH.out;have e:k=gb:=e;omega) fun k hk=>⟨_,_,(show k=gb from hk)▸nE.out,aD,aD,aD⟩;have Kj:=ae<|fun hg=>And.intro (vH hg).1 ((vH hg).2.aA j6 iL);have cZ:=aB (ag (cR o a) w (W5.setRow gb (dE vb (.slice A4 n4 m4) (bH (aQ c 0 hP hk).sp c M n d 1) cd))) ((bn.trans bM).aC j6 fun k hk=>.inr dQ);clear j6 iL nE H5 vH iT bM;generalize W5.setRow gb (dE vb (.slice A4 n4 m4) (bH (aQ c 0 hP hk).sp c M n d 1) cd)=W6 at *;have x4:=H6.cf (i:=4) aD;have z2:aE W6 gb 2 (.bool (bH (aQ c 0 hP hk).sp c M n d 1)):=oP.af rfl
    cases hg:bH (aQ c 0 hP hk).sp c M n d 1 with
    |false=>
     exact ju
    |true=>
     exact qx
 ·have ui:=ae (pU (b:=n) UL HID JS fun j hj=>by rw[bS]at hj;rw[fR M.U hj];intro e;exact hm (by rw[←e];show M.U.L.getD j 0∈M.U.L;rw[List.getD_eq_getElem?_getD,List.getElem?_eq_getElem hj];exact List.getElem_mem hj));have uM:M.U.v n=0:=H3.oq.out _ hm;have hv:M.U.v n≠1:=ao;go_upto_region 4 with fail;refine dU (fun w':World=>aE w' a.x 18 (aO a.zz)∧aw w' fb 0 n) 7 fun aH=>?_
  refine bX [0,1,2,3,4,5] ?_;refine cM 6 fun Kc hK=>?_
  go_simp;refine ui.mono ?_;rintro e W9 ⟨rfl,rfl⟩;refine eh hK fun aH=>?_
  clear hK;refine cG ?_;clear aH k0 k1;have nQ:=uy (b:=n) (lev:=4) (H3.keep ((ag.aj az W3).drew)) (tf.keep ((ag.aj az W3).drew));unfold fY at nQ;have nQ:=ae nQ;go_wp2_with (first|(refine fH #[ah n,.slice A d.length q] jE.drew Tryz.underlying102 ?_)|(go_at_call 45;refine nQ.mono ?_;rintro e W7 ⟨u7,rfl,pD,dL⟩));go_ret;exact⟨u7,Dr,rfl,by rw[JX.out,if_pos hv,if_pos uM];exact pD.low (bn.drew).size,by rw[DN.out,if_pos hv];exact(H3.keep ((ag.aj az W3).drew)).keep dL,(bn.drew).aC dL fun _ h=>h.elim⟩
theorem OO (h:bA Z o a M Dr w){n:Nat}{v:Value}{d:List Int}(hn:(n:Int)<c.f 2)(hd:cX Z w v d)(cw:(aQ c 0 hP hk).sp.eE M.s<bN):
 Calls Tryz.prog 53 #[aO a.x,.agg (fY n v)] w (Ht Z o a M n d w):=by
 by_cases h5:c.f 5=1
 ·exact Ds h hn hd cw h5
 ·exact FM h hn hd cw h5
end
theorem Ol {P:Program}(w:World){o:Oper}{a:Act}{K:Act→World→Prop}{Q:Exit→Act→World→Prop}(s x:Operand)(t e:TypeId)
 (ho:o.op= .call {callee:=.builtin .append,args:=#[s,x],argTypes:=#[t,t]}) {z:Value} {size bytes:Nat}
 (eP:(P.info? e).map (fun i=>(i.zero,i.size,i.bytes))=some (some z,size,bytes)) (J1:z.cells.size=size) (hsz:0<size) (ht:P.underlying t=some (.slice e))
 (base:Nat) (v:Value) (n:Nat) (xs:List Value) (hs:a.eval s=v) (bF:w.ownsRow base e size v n xs) (base':Nat) (u:Value) (m:Nat) (news:List Value) (hx:a.eval x=u) (hu:w.ownsRow base' e size u m news)
 (h1:∀y∈news,y.oneCell'=true) (hlen:n+m≤maxLen) (iP:(n+m)*bytes≤140737488355328) (ly:base≤w.heap.size)
 (h:∀v' w',w'.ownsRow base e size v' (n+m) (xs ++ news)→ag (aK v) w w'→(v'.ownBlock=v.ownBlock∨v'.ownBlock=some w.heap.size)→K (a.put o.dst v') w'):o.wp P a w K Q:=by
 rcases hu.2 with⟨rfl,h0⟩|⟨g,cap,cur,rfl,hb,hg,hn,hm,ae2,ND⟩
 ·subst h0;obtain rfl:news= []:=List.eq_nil_of_length_eq_zero (by rw[hu.1];omega);have hr:=po (P:=P) w t o.type e eP ht bF;unfold Oper.wp execOp;simp only[ho,resolve,invoke,builtin,Sem.run_bind,Sem.run_pure,Result.andThen_ok,List.map_toArray,List.map_cons,List.map_nil,hs,hx,hr];exact h v w jC (ag.aj _ _) (.inl rfl)
 ·obtain⟨i0,hi,yl,CK,Ay⟩:=info_parts eP;obtain⟨v',w',hr,h2,h3,h4,h5⟩:=run_append_own_at (P:=P) w base t o.type e i0 z size bytes ht hi yl CK Ay J1 hsz v n xs bF ⟨g,0,none⟩ m cap news hu.1 (fun j y hj=>World.ownsRow.cells hu (g:=g) rfl j y hj) h1 hlen iP ly;unfold Oper.wp execOp;simp only[ho,resolve,invoke,builtin,Sem.run_bind,Sem.run_pure,Result.andThen_ok,List.map_toArray,List.map_cons,List.map_nil,hs,hx,hr];exact h v' w' h2 ((ag.aj _ _).grown h3 fun k hk=>.inl hk) h5
theorem dD.low {w:World}{base b':Nat}{v:Value}{I:List (Int×Int)}(h:dD w base v I)(hb:b'≤base):dD w b' v I:=by
 obtain⟨h1,h2⟩:=h;refine⟨h1,?_⟩;rcases h2 with h2|⟨g,cap,cur,e,hg,r⟩
 ·exact .inl h2
 ·exact .inr ⟨g,cap,cur,e,Nat.le_trans hb hg,r⟩
section
variable {K:aZ}{c:aM}{Z:ZN}{w w':World}{S:Nat→Prop}{o:cJ K c 0}{a:kK}{M:CM K.σ}{Dr:Nat→List Int}
structure vO (o:cJ K c 0)(a a':kK)(w w':World):Prop where
 x:a'.x=a.x
 r:a'.r=a.r
 hv:a'.pz=a.pz
 W:∀k,cR o a' k→cR o a k∨w.heap.size≤k
 ow:ag (cR o a) w w'
def aef (Z:ZN)(o:cJ K c 0)(a:kK)(M:CM K.σ)(i:Nat)(wr:Bool)(n:Nat)(d:List Int)(w:World)(e:Ending)(w':World):Prop:=
 ∃v a' uO,e= .returned v∧bg Z w' w.heap.size v (dK K.sp c (cN c) M i wr n d)∧bA Z o a' (bB K.sp c (cN c) M i wr n d) uO w'∧vO o a a' w w'
def X0 (Z:ZN)(o:cJ K c 0)(a:kK)(M:CM K.σ)(n:Nat)(dv:Value)(d:List Int)(w:World)(lv tv:Value)(wx:World):Prop:=
 ∃(A2:Option Addr) (q2:Nat) (sv:Value) (QE:Nat→List Int),lv=ah (b9 c M.U n)∧tv= .slice A2 (iY K.sp c (cN c) M n).length q2∧bg Z wx w.heap.size tv (iY K.sp c (cN c) M n)∧
  bA Z o {a with sv:=sv} {bG K.sp c (cN c) M n with ops:=M.ops+1} QE wx∧cX Z wx dv d∧ag (cR o a) w wx
def Fq (Z:ZN)(o:cJ K c 0)(a:kK)(M:CM K.σ)(U':US)(m:List (Int×Nat))(ub bz:Nat)(lev:Int)(mv dv:Value)(d:List Int)(w W1:World)(told i:Value)(wr:World):Prop:=
 ∃(k:Nat) (uO:Nat→List Int),k≤m.length∧i=ah k∧bg Z wr W1.heap.size told (du K (cN c) M m k).2.2∧(du K (cN c) M m k).2.2.length≤k∧
  bA Z o a {M with s:=(du K (cN c) M m k).1,D:=(du K (cN c) M m k).2.1,U:=U',ops:=M.ops+1} uO wr∧Box wr ub 97 (CG lev mv)∧gD wr bz mv m∧cX Z wr dv d∧ag (cR o a) W1 wr
theorem IQ (h:cK c):∀l,1≤l→l≤3→0≤dF c l:=fun l h1 h3=>by
 have q0:=h.pc 0 aD;have q1:=h.pc 1 aD;have q2:=h.pc 2 aD;exact ra
section
theorem Cj (h:bA Z o a M Dr w){k:Nat}(hk:k<cN c){op blk lev:Int}{dt:List Int}(hs:M.S k=⟨op,blk,lev,false,dt⟩):
 Calls Tryz.prog 48 #[aO a.x,ah k] w fun e w'=>∃A n m,e= .returned (.agg (dW 1 k op blk lev (.slice A n m)))∧cX Z w' (.slice A n m) []∧ag az w w':=by
 refine(MV h hk).mono ?_;rintro e w' ⟨A,n,m,he,hd,ho⟩;rw[hs]at he hd;rw[AR rfl]at he;rw[xL rfl]at hd;exact⟨A,n,m,he,hd,ho⟩
theorem zZ (h:bA Z o a M Dr w){k:Nat}(hk:k<cN c){op blk lev:Int}{dt:List Int}(hs:M.S k=⟨op,blk,lev,true,dt⟩):
 Calls Tryz.prog 48 #[aO a.x,ah k] w fun e w'=>∃A n m,e= .returned (.agg (dW 2 k op blk lev (.slice A n m)))∧cX Z w' (.slice A n m) dt∧ag az w w':=by
 refine(MV h hk).mono ?_;rintro e w' ⟨A,n,m,he,hd,ho⟩;rw[hs]at he hd;rw[xU rfl]at he;rw[uE rfl]at hd;exact⟨A,n,m,he,hd,ho⟩
theorem mn{P:Prop}(h:P:=by
 go_wp2
 go_roundw
 case rel=>(repeat first|exact yp|(refine⟨yp,?_⟩;(repeat(first|exact rfl|refine⟨rfl,?_⟩)))|apply Exists.intro)
 case measure=>simp[intOf];have:=Bu.out;omega):P:=h
theorem qB{P:Prop}(h:P:=by
 refine cM 15 fun Kc hK=>?_
 refine wp_store_row 102 _ _ rfl fb #[ah y,.slice A6 n6 m6] rfl rfl 102 _ GG bZ rfl a6 ?_;have j8:ag (ar fb) W7 (W7.setRow fb #[ah y,.slice A6 n6 m6]):=(ag.aj (ar fb) W7).au (.inl rfl) _;have hS8:Wr Z (ar fb) W7:=fun k hk e=>by rw[show k=fb from e];exact⟨Nat.le_trans H0 (by have:=kH.out;have:=aa4.out;omega),.inr fun cs hb=>(GG.off hb aD) rfl⟩
 have abe:=ae<|GG.au #[ah y,.slice A6 n6 m6];have H8:=ae<|H7.dC j8 hS8 (fun k hk e=>by have:=iA.out k hk;have:=kH.out;have:=aa4.out;have e:k=fb:=e;omega) fun k hk=>⟨_,_,(show k=fb from hk)▸GG.out,aD,aD,aD⟩;have EZ:=ae<|UO.aA j8 hS8;have ix:=aB (ag (fun k=>cR o a k∨k=fb) W5 (W7.setRow fb #[ah y,.slice A6 n6 m6])) ((fC.mono (S':=fun k=>cR o a k∨k=fb) fun k hk=>.inl (.inl hk)).aC j8 fun k hk=>.inl (.inr hk));have k1:=j8.cell k1 (fun e=>by have h9:ub=fb:=e;have:=Su.out;have:=kH.out;omega);have k2:=j8.cell k2 (fun e=>by have h9:g=fb:=e;have:=adw.out;have:=kH.out;omega);clear j8 hS8 GG H7 UO fC;generalize W7.setRow fb #[ah y,.slice A6 n6 m6]=W8 at *;have k0:aE W8 a.x 17 (aO a.r.cb):=H8.mD;refine eh hK fun aH=>?_
 clear hK;refine cG ?_;clear aH k0 k1 k2;have Yp:fP K.sp {M with s:=(du K (cN c) M m k).1,D:=(du K (cN c) M m k).2.1,U:=U',ops:=M.ops+1} y= {M with s:=K.sp.rem (du K (cN c) M m k).1 y,D:=aT (du K (cN c) M m k).2.1 y none,U:=U',ops:=M.ops+1}:=by unfold fP;rw[if_pos (by simp[hD])]
 rw[Yp]at H8;clear Yp;have nQ:=uy (b:=y) (lev:=2) (H8.keep ((ag.aj az W8).drew)) (EZ.keep ((ag.aj az W8).drew));unfold fY at nQ;have nQ:=ae nQ;have aaK:Wr Z (fun k=>cR o a k∨k=fb) W5:=fun k hk hs=>hs.elim (fun e=>H5.wr k hk e) (fun e=>absurd hk (by have:=kH.out;omega))
 have nL:=ae (nM.aA ix aaK fun k hk e=>by
  obtain⟨hb,cs,gX⟩:=nM.aq hk;have h1:=gX.lt;rcases e with e|e
  ·exact py k e (by have:=KE.out;have:=KD.out;omega)
  ·have:=kH.out;omega)
 have aaW:=ae (ix.aq aaX fun e=>e.elim (fun e=>py ub e KE) fun e=>by have:=Su.out;have:=kH.out;omega);have ado:=ae (adp.off ix fun k h1 h2 e=>e.elim (fun e=>py k e (by have:=HBZ.out;omega)) fun e=>by have:=kH.out;omega);have MD:=ae<|vg.aA ix aaK;have NC:=ix.cell HW2 fun e=>e.elim (fun e=>py g e HGG) fun e=>by have h9:g=fb:=e;have:=adw.out;have:=kH.out;omega
 have adj:=aB (ag (cR o a) W3 W8) (aa3.aC ix fun k hk=>hk.elim .inl fun e=>.inr (by rw[e];have:=aaZ.out;have:=kH.out;omega));clear aaK H5 nM aaX adp vg aa3 HW2 HW0 QB ix;go_upto_region 12 with fail;have k0:aE W8.drew ub 1 (aU g m.length cu):=aaW.af rfl;have k1:aw W8.drew g (k*3+2) 2:=NC;have k2:aw W8.drew fb 0 y:=abe.af rfl;have k3:aE W8.drew fb 1 (.slice A6 n6 m6):=abe.af rfl;clear NC;go_upto_region 12 with fail;refine dU (fun w':World=>aE w' ub 1 (aU g m.length cu)∧aw w' g (k*3+2) 2∧aw w' fb 0 y∧aE w' fb 1 (.slice A6 n6 m6)) 11 fun aH=>?_
 refine bX [0,1,2,3,4,5,6,7,8] ?_;refine cM 9 fun Kc hK=>?_
 go_simp;refine nQ.mono ?_;rintro e W9 ⟨u9,rfl,aaq,nN⟩;obtain⟨A9,c9,e9,_,_⟩:=aaq.shape;subst e9;have KI:=ae<|((ag.aj az W8).drew).trans nN;have k0:=nN.cell k0 id;have k1:=nN.cell k1 id;have k2:=nN.cell k2 id;have k3:=nN.cell k3 id;have HQ9:=aB (bg Z W9 W8.heap.size _ _) (aaq);clear aaq nN;refine eh hK fun aH=>?_
 clear hK;refine cM 10 fun Kc hK=>?_
 have nK:=ae<|nL.keep KI;have af8:=ae<|KI.aq abe id;have H9:=ae<|H8.keep KI;have afF:=ae<|KI.aq aaW id;have afX:=ae<|ado.off KI fun _ _ _ h=>h;have NY:=ae<|MD.keep KI;have adi:=ae<|adj.aC KI fun _ h=>h.elim;obtain⟨X1,e1,r1,d1⟩:=nK.out;obtain⟨X2,e2,r2,d2⟩:=HQ9.out;have NW:=ae<|SL EW e1 e2;have lH:=ae e1;have yz:=ae e2;have b5:=ae r1;have iw:=ae r2;have tI:=ae d1;have adA:=ae d2;have afD:=aB (Z.B≤W3.heap.size) (by have:=H0.out;have:=KE.out;have:=KD.out;omega);have afH:=aB (W3.heap.size≤W9.heap.size) (adi.size);clear e1 e2 r1 r2 d1 d2 nL H8 aaW ado MD adj;refine Ol _ (.tmp 82) (.tmp 91) 40 37 rfl oC rfl aD Tryz.underlying40 W3.heap.size _ X1.length _ rfl b5 W8.heap.size _ X2.length _ rfl iw (Na adA) (by unfold maxLen;have:=NW.out;have:=Bu.out;have:=yw.out;omega) (by have:=NW.out;have:=Bu.out;have:=yw.out;omega) (by have:=afH.out;omega) ?_;intro v10 ga h10 iN _;have Rl:=nK.wr afD;have Ib:=ae<|bg.cat h10 lH yz (fun q hq=>(tI q hq).aA iN Rl) (fun q hq=>(adA q hq).aA iN Rl);have wO:=ae<|H9.dC iN Rl (fun j hj e=>by have:=iA.out j hj;have:=(nK.aq e).1;have:=KE.out;have:=KD.out;omega) (fun j hj=>by obtain⟨_,cs,hb⟩:=nK.aq hj;exact⟨_,cs,hb,aD,aD,aD⟩);have aet:=ae (iN.aq afF fun e=>by have:=(nK.aq e).1;have:=KD.out;omega);have aeu:=aB (gD ga bz _ m) (bk afX iN fun j hj e=>by have:=(nK.aq e).1;have:=(HAU j hj).2;omega);have Oi:=ae<|NY.aA iN Rl;have kh:=ae<|adi.aC iN fun j hj=>.inr (nK.aq hj).1;have k0:=iN.cell k0 fun e=>by have h9:=(nK.aq e).1;have h8:W3.heap.size≤ub:=h9;have:=KD.out;omega
 have k1:=iN.cell k1 fun e=>by have h9:=(nK.aq e).1;have h8:W3.heap.size≤g:=h9;have:=HGL.2;omega
 have hfx:¬aK _ fb:=fun e=>(show Box W9 fb 102 _ from af8).off (nK.aq e).2.choose_spec aD rfl
 have k2:=iN.cell k2 hfx;have k3:=iN.cell k3 hfx;obtain⟨A10,Vl,e10,_,_⟩:=cz h10;subst e10;clear h10 iN Rl hfx;refine eh hK fun aH=>?_
 clear hK;refine cG ?_;clear aH k0 k1 k2 k3;have AF:Hid (du K (cN c) M m (k+1)=(K.sp.rem (du K (cN c) M m k).1 y,aT (du K (cN c) M m k).2.1 y none,(du K (cN c) M m k).2.2 ++ eZ (cN c) M.S y 2 d0)):=td;have yp:=aB (Fq Z o {a with sv:=.slice As ns cs} M U' m ub bz lev (aU g m.length cu) (.slice A d.length q) d w W3 (.slice A10 (X1.length+X2.length) Vl) (ah ((k:Int)+1)) ga) (⟨k+1,QE,Bu,by simp,by rw[AF.out];exact Ib,by rw[AF.out];exact M8 NW lH yz,by rw[AF.out];exact wO,aet,aeu,Oi,kh⟩);exact mn):P:=h
theorem OS (h:bA Z o a M Dr w){i n:Nat}{wr:Bool}{v:Value}{d:List Int}(hi:i<cN c)(hn:(n:Int)<c.f 2)(hd:cX Z w v d)(Bn:M.ops≤1000000)(ti:M.en.length≤1000000)(cw:K.sp.eE (bG K.sp c (cN c) M n).s<bN):
 Calls Tryz.prog 14 #[aO a.x,ah i,.bool wr,ah n,v] w (aef Z o a M i wr n d w):=by
 obtain⟨A,q,rfl⟩:=hd.shape;have FY:=h.Kd;have f20:w.frozen? ⟨a.x,20,none⟩=false:=h.aq.free 20;have hwr:IntKind.i64.wrap ((M.ops:Nat)+1:Int)=((M.ops+1:Nat):Int):=by rw[IntKind.wrap_i64];omega
 have j20:ag (ar a.x) w (w.setCell ⟨a.x,20,none⟩ (ah (M.ops+1:Nat))):=(ag.aj (ar a.x) w).setCell (p:=⟨a.x,20,none⟩) (.inl (show ar a.x a.x from rfl)) _;have aah:∀k,ar a.x k→cR o a k:=fun k hk=>by rw[show k=a.x from hk];exact .inr (.inl rfl)
 have Yo:Wr Z (ar a.x) w:=fun k hk hs=>h.wr k hk (aah k hs)
 have H1:=ae<|h.KP (M.ops+1);have jL:=ae<|hd.aA j20 Yo;have aX:=ae<|j20.mono (S':=cR o a) fun k hk=>.inl (aah k hk);have HI:=ae hi;have HN:=ae hn;have afP:=ae Bn;have Bx:=ae ti;have tJ:=ae cw;have H0:=ae h.zb;have bL:=ae<|fun k (hk:cR o a k)=>h.kB hk;have iA:=ae<|fun k (hk:mL o a k)=>h.uU hk;have Ob:=aB ((w.setCell ⟨a.x,20,none⟩ (ah (M.ops+1:Nat))).heap.size=w.heap.size) (World.size_setCell ..);have HR:=ae h.right;have kD:=ae h.nn;clear h hd Yo hi hn Bn ti cw j20 aah
 go_enter Tryz.func14,Tryz.ntmps14
 go_upto_region 2 with fail;change Code.wp _ _ _ _ (w.setCell ⟨a.x,20,none⟩ (ah (M.ops+1:Nat)));clear FY f20 hwr;generalize w.setCell ⟨a.x,20,none⟩ (ah (M.ops+1:Nat))=W1 at *;have x5:=H1.cf (i:=5) aD;have x4:=H1.cf (i:=4) aD;go_upto_if 32 with fail
 go_cut [11,12] (fun lv tv wx=>X0 Z o a M n (.slice A d.length q) d w lv tv wx)
 case first=>
  by_cases h5:c.f 5=1
  ·have QZ:(c.f 5==1)=true:=by simpa using h5
   have h4:c.f 4=2:=by have:=HR.pp;omega
   have hM:bG K.sp c (cN c) M n= {M with s:=(yG K.sp c (cN c) M n).1,D:=(yG K.sp c (cN c) M n).2.1,U:=(gV (dF c) M.U n).1}:=by unfold bG;rw[if_pos h5]
   have hT:iY K.sp c (cN c) M n=(yG K.sp c (cN c) M n).2.2:=by unfold iY;rw[if_pos h5]
   have hL:b9 c M.U n=(gV (dF c) M.U n).2.1:=by unfold b9;rw[if_neg ao,if_neg ao]
   have J2:yG K.sp c (cN c) M n=du K (cN c) M (gV (dF c) M.U n).2.2 (gV (dF c) M.U n).2.2.length:=by unfold du;rw[List.take_length];rfl
   have hui:=Tg (dF c) (IQ HR) H1.oq (b:=(n:Int)) ao (by have:=HN.out;have:=HR.p2;omega);have Ro:(gV (dF c) M.U n).2.2.length≤4:=yV _ _ _;rw[J2]at hM hT;obtain⟨csb,acR⟩:=H1.tD;have HU:=WO (b:=(n:Int)) H1.yk H1.its H1.cap acR H1.oq H1.oq.len (by have:=HN.out;have:=HR.p2;omega) (IQ HR);have x18:=H1.c18;dsimp only at HU hui;generalize JM:(gV (dF c) M.U n).2.2=m at *;generalize hUU:(gV (dF c) M.U n).1=U' at *;generalize hll:(gV (dF c) M.U n).2.1=lev at *;have yw:=ae Ro;have HUI:=ae hui;have HU:=ae HU;have fh:=ae hM;have Yy:=ae hT;have Bh:=ae hL;clear JM hUU hll Ro hui hM hT hL J2 h4 h5 acR;go_upto_region 6 with(go_at_call 42;refine HU.mono ?_;rintro e W2 ⟨As,ns,cs,u,rfl,dX,J6,pY,bp⟩;obtain⟨Au,cu,eu,_,_⟩:=pY.shape;subst eu);have ZA:∀k,aK (.slice As ns cs) k→W1.heap.size≤k:=fun k hk=>(World.ownsRow.lt J6 k hk).1
   have H2:=ae<|H1.stack dX (J6.low H1.zb) HUI (fun k hk=>.inr (ZA k hk)) bp;have hw2:∀k,ar a.zz k→cR o a k:=fun k hk=>by rw[show k=a.zz from hk];exact .inr (.inr (.inl rfl))
   have tA:=ae<|jL.aA bp fun k hk hs=>H1.wr k hk (hw2 k hs);have bf:=ae<|aX.aC bp fun k hk=>.inl (hw2 k hk);have Ru:ag az W2 (W2.alloc (.cells (CG lev (.slice Au m.length cu)) 97)):=(ag.aj az W2).alloc _;have aaY:=ae<|Box.fresh W2 97 (CG lev (.slice Au m.length cu));have H3:=ae<|H2.keep Ru;have tf:=ae<|tA.keep Ru;have bn:=ae<|bf.aC Ru fun _ h=>h.elim;have adq:=ae<|pY.off Ru fun _ _ _ h=>h;have ac9:=aB (w.heap.size≤W2.heap.size) (bf.size);change Code.wp _ _ _ _ (W2.alloc (.cells (CG lev (.slice Au m.length cu)) 97));clear Ru ZA hw2 dX J6 pY bp H2 tA bf HU x18 x5 x4 H1 jL aX;generalize W2.alloc (.cells (CG lev (.slice Au m.length cu)) 97)=W3 at *;generalize W2.heap.size=ub at *;generalize W1.heap.size=bz at *;have z0:aw W3 ub 0 lev:=aaY.af rfl;have HBZ:=aB (w.heap.size≤bz) (by rw[Ob.out];exact dm _);clear Ob;have KD:=aB (ub<W3.heap.size) (aaY.lt);have HAU:=aB (∀k,aK (.slice Au m.length cu) k→bz≤k∧k<W3.heap.size) (fun k hk=>World.ownsRow.lt adq k hk);go_wp2_with fail;clear z0;have NI:=yw.out
   go_loopw [12,14] (fun told iv wr=>Fq Z o {a with sv:=.slice As ns cs} M U' m ub bz lev (.slice Au m.length cu) (.slice A d.length q) d w W3 told iv wr) (fun _ iv _=>m.length - (intOf iv).toNat)
   case atStart=>exact⟨0,Dr,dT _,rfl,bg.nil _ _ _,dT _,H3,aaY,adq,tf,ag.aj _ _⟩
   case round=>
    obtain⟨k,QE,hk,rfl,F3,J4,fL,Ux,U6,hdd,ho⟩:=hrel;obtain⟨At,ct,et,_,_⟩:=F3.shape;subst et;have CU:=ae F3;have EW:=ae J4;have H4:=ae fL;have Oa:=ae Ux;have RX:=ae U6;have DM:=ae hdd;have bK:=aB (ag (cR o a) W3 wr) (ho);clear F3 J4 fL Ux U6 hdd ho
    by_cases aY:k<m.length
    ·obtain⟨g,cg,eg,QO,y0,y1,y2⟩:=RX.cell aY;injection eg with eA _ eC;subst eA eC;have hST:=zh (K:=K) (n:=cN c) (M:=M) aY;generalize hd:m.getD k (0,0)=x at *;obtain⟨y,fr⟩:=x;simp only at y0 y1 y2;have oE:=ae hST;have Bu:=ae aY;have iV:(k:Int)<m.length:=ao;have HGL:=ae<|HAU g rfl;clear hST aY hk hd QO;have zu:aE wr ub 1 (aU g m.length cu):=Oa.af rfl;go_upto_region 10 with fail;have k0:aE wr.drew ub 1 (aU g m.length cu):=zu;have k1:aw wr.drew g (k*3+1) fr:=y1;have k2:aw wr.drew g (k*3) y:=y0;have k3:aE wr.drew a.x 17 (aO a.r.cb):=H4.mD;have HY2:=ae y2;have HY0:=ae y0;clear zu y0 y1 y2
     by_cases hf:fr=1
     ·subst hf;have td:du K (cN c) M m (k+1)=_:=oE.out;unfold p8 at td;rw[if_pos rfl]at td;have td:=ae td;clear oE;rw[show((1:Nat):Int)=1 from rfl]at k1;have HAS:=MU (H4.keep ((ag.aj az wr).drew)) y;dsimp only at HAS
      cases hD:(du K (cN c) M m k).2.1 y with
      |none=>
       rw[hD]at HAS td;have HAS:=ae HAS;have td:Hid (du K (cN c) M m (k+1)=du K (cN c) M m k):=td;go_upto_region 10 with fail;refine dU (fun w':World=>aE w' ub 1 (aU g m.length cu)∧aw w' g (k*3+1) 1∧aw w' g (k*3) y∧aE w' a.x 17 (aO a.r.cb)) 19 fun aH=>?_
       refine bX [0,1,2,3,4,5,6,7,8,9,10,11,12,13,14,15,16,17] ?_;refine cM 18 fun Kc hK=>?_
       go_simp;refine HAS.mono ?_;rintro e W5 ⟨rfl,cA⟩;have bM:=ae<|((ag.aj az wr).drew).trans cA;have k0:=cA.cell k0 id;have k1:=cA.cell k1 id;have k2:=cA.cell k2 id;have k3:=cA.cell k3 id;clear cA;refine eh hK fun aH=>?_
       clear hK;refine cG ?_;clear aH k0 k1 k2 k3;have mI:=ae<|bK.aC bM fun _ h=>h.elim;have yp:=aB (Fq Z o {a with sv:=.slice As ns cs} M U' m ub bz lev (aU g m.length cu) (.slice A d.length q) d w W3 (.slice At (du K (cN c) M m k).2.2.length ct) (ah ((k:Int)+1)) W5) (⟨k+1,QE,Bu,by simp,by rw[td.out];exact CU.keep bM,by rw[td.out];have:=EW.out;omega,by rw[td.out];exact H4.keep bM,bM.aq Oa id,RX.off bM (fun _ _ _ h=>h),DM.keep bM,mI⟩);exact mn
      |some d0=>
       rw[hD]at HAS td;have HAS:=ae HAS;go_upto_region 10 with fail;refine dU (fun w':World=>aE w' ub 1 (aU g m.length cu)∧aw w' g (k*3+1) 1∧aw w' g (k*3) y∧aE w' a.x 17 (aO a.r.cb)) 19 fun aH=>?_
       refine bX [0,1,2,3,4,5,6,7,8,9,10,11,12,13,14,15,16,17] ?_;refine cM 18 fun Kc hK=>?_
       go_simp;refine HAS.mono ?_;rintro e W5 ⟨rfl,cA⟩;have bM:=ae<|((ag.aj az wr).drew).trans cA;have k0:=cA.cell k0 id;have k1:=cA.cell k1 id;have k2:=cA.cell k2 id;have k3:=cA.cell k3 id;clear cA;refine eh hK fun aH=>?_
       clear hK;refine cG ?_;clear aH k0 k1 k2 k3;have aa3:=ae<|bK.aC bM fun _ h=>h.elim;have H5:=ae<|H4.keep bM;have nM:=ae<|CU.keep bM;have aaX:=ae<|bM.aq Oa id;have adp:=ae<|RX.off bM (fun _ _ _ h=>h);have vg:=ae<|DM.keep bM;have w2:=bM.cell HY2 id;have w0:=bM.cell HY0 id;have HW2:=ae w2;have HW0:=ae w0;have aaZ:=aB (W3.heap.size≤W5.heap.size) (aa3.size);clear bK bM H4 CU Oa RX DM w2 w0 HY2 HY0 HAS;go_upto_region 11 with fail;have QB:=ae<|fun(w':World) (hw:ag az W5 w')=>yb (H5.keep hw) (b:=y) (d:=d0) hD;have k0:aE W5.drew a.x 17 (aO a.r.cb):=H5.mD;have k1:aE W5.drew ub 1 (aU g m.length cu):=aaX.af rfl;have k2:aw W5.drew g (k*3) y:=HW0.out;have py:=aB (∀k,cR o a k→w.heap.size≤k→False) (fun k h1 h2=>by have:=bL.out k h1;omega);have KE:=aB (w.heap.size≤ub) (ac9);have HGG:=aB (w.heap.size≤g) (Nat.le_trans HBZ HGL.1);have Su:=aB (ub<W5.heap.size) (Nat.lt_of_lt_of_le KD aaZ);have adw:=aB (g<W5.heap.size) (Nat.lt_of_lt_of_le HGL.2 aaZ);have aa4:=aB (w.heap.size≤W5.heap.size) (Nat.le_trans KE (Nat.le_of_lt Su));go_upto_region 11 with fail;refine dU (fun w':World=>aE w' a.x 17 (aO a.r.cb)∧aE w' ub 1 (aU g m.length cu)∧aw w' g (k*3) y) 16 fun aH=>?_
       refine bX [0,1,2,3,4,5,6,7,8,9] ?_;refine il (i:=10) (j:=14) rfl rfl bZ (fun Kc hK=>?_) (fun Kc hK=>?_)
       ·go_simp;refine(QB W5.drew ((ag.aj az W5).drew)).mono ?_;rintro e W6 ⟨A6,n6,m6,rfl,hd6,Vb,bT⟩;have nR:=ae hd6;have H6:=ae Vb;have cZ:=aB (ag (cR o a) W5 W6) ((((ag.aj az W5).drew).mono (S':=cR o a) fun k hk=>hk.elim).aC bT fun k hk=>.inl (.inl hk));have k0:aE W6 a.x 17 (aO a.r.cb):=H6.mD;have k1:=cZ.cell k1 (fun e=>py ub e KE);have k2:=cZ.cell k2 (fun e=>py g e HGG);clear hd6 Vb bT;refine eh hK fun aH=>?_
        clear hK;refine bX [11,12,13] ?_;refine cM 14 fun Kc hK=>?_
        go_simp;have ug:ag az W6 (W6.alloc (.cells zF 102)):=(ag.aj az W6).alloc _;have GG:=ae<|Box.fresh W6 102 zF;have UO:=ae<|nR.keep ug;have H7:=ae<|H6.keep ug;have fC:=ae<|cZ.aC ug fun _ h=>h.elim;have kH:=aB (W5.heap.size≤W6.heap.size) (cZ.size);have k1:=ug.cell k1 id;have k2:=ug.cell k2 id;have k0:aE (W6.alloc (.cells zF 102)) a.x 17 (aO a.r.cb):=H7.mD;change Kc _ (W6.alloc (.cells zF 102));clear ug nR H6 cZ;generalize W6.alloc (.cells zF 102)=W7 at *;generalize W6.heap.size=fb at *;refine eh hK fun aH=>?_
        clear hK;exact qB
       ·go_simp;have Mo:ag az W5 (W5.drew.alloc (.cells zF 102)):=((ag.aj az W5).drew).alloc _;have Oe:=aB (Box (W5.drew.alloc (.cells zF 102)) W5.heap.size 102 zF) (Box.fresh W5.drew 102 zF);have gY:=ae Mo;have kH:=aB (W5.heap.size≤W5.heap.size) (dm _);have k1:=((ag.aj az W5.drew).alloc (.cells zF 102)).cell k1 id;have k2:=((ag.aj az W5.drew).alloc (.cells zF 102)).cell k2 id;have k0:aE (W5.drew.alloc (.cells zF 102)) a.x 17 (aO a.r.cb):=(H5.keep Mo).mD;change Kc _ (W5.drew.alloc (.cells zF 102));clear Mo
        try rw[show W5.drew.heap.size=W5.heap.size from rfl]
        generalize W5.drew.alloc (.cells zF 102)=W6 at *;obtain⟨fb,gu⟩:∃fb,fb=W5.heap.size:=⟨_,rfl⟩;rw[←gu]at Oe ⊢;have kH:=aB (W5.heap.size≤fb) (Nat.le_of_eq gu.symm);clear gu;refine eh hK fun aH=>?_
        clear hK;refine cM 10 fun Kc hK=>?_
        go_simp;refine(QB W6 gY).mono ?_;rintro e W7 ⟨A6,n6,m6,rfl,hd6,Vb,bT⟩;have UO:=ae hd6;have H7:=ae Vb;have GG:=ae (bT.aq Oe fun e=>by have:=bL.out _ (.inl e);have:=kH.out;have:=aa4.out;omega);have fC:=aB (ag (cR o a) W5 W7) ((gY.mono (S':=cR o a) fun k hk=>hk.elim).aC bT fun k hk=>.inl (.inl hk));have k0:aE W7 a.x 17 (aO a.r.cb):=H7.mD;have k1:=bT.cell k1 (fun e=>py ub (.inl e) KE);have k2:=bT.cell k2 (fun e=>py g (.inl e) HGG);clear hd6 Vb bT Oe gY;refine eh hK fun aH=>?_
        clear hK;refine bX [11,12,13] ?_;exact qB
     ·have Ka:du K (cN c) M m (k+1)=du K (cN c) M m k:=by rw[oE.out];unfold p8;rw[if_neg hf]
      have hf':((fr:Int)==1)=false:=by
       have:¬((fr:Nat):Int)=1:=ao;simpa using this
      have yp:=aB (Fq Z o {a with sv:=.slice As ns cs} M U' m ub bz lev (aU g m.length cu) (.slice A d.length q) d w W3 (.slice At (du K (cN c) M m k).2.2.length ct) (ah ((k:Int)+1)) wr.drew) (⟨k+1,QE,Bu,by simp,by rw[Ka];exact CU.keep ((ag.aj az wr).drew),by rw[Ka];have:=EW.out;omega,by rw[Ka];exact H4.keep ((ag.aj az wr).drew),Oa,RX,DM.keep ((ag.aj az wr).drew),bK.drew⟩);clear Ka oE hf;go_upto_region 10 with fail;refine dU (fun w':World=>aE w' ub 1 (aU g m.length cu)∧aw w' g (k*3+1) fr∧aw w' g (k*3) y∧aE w' a.x 17 (aO a.r.cb)) 19 fun aH=>?_
      refine yd [0,1,2,3,4,5,6,7,8,9,10,11,12,13,14,15,16,17] ?_;refine cM 18 fun Kc hK=>?_
      rw[if_neg cU];refine eh hK fun aH=>?_
      clear hK;refine cG ?_;clear aH k0 k1 k2 k3;exact mn
    ·obtain rfl:k=m.length:=ao;have zu:aE wr ub 1 (.slice Au m.length cu):=Oa.af rfl;go_wp2_with fail
     go_meet
     case rel=>exact⟨At,ct,.slice As ns cs,QE,by rw[Bh.out],by rw[Yy.out],by rw[Yy.out];exact CU.low (Nat.le_trans ac9 (Nat.le_of_lt KD)),by rw[fh.out];exact H4,DM,bn.trans bK⟩
  ·have QZ:(c.f 5==1)=false:=by simpa using h5
   have hM:bG K.sp c (cN c) M n=M:=by unfold bG;rw[if_neg h5]
   have hT:iY K.sp c (cN c) M n= []:=by unfold iY;rw[if_neg h5]
   by_cases h4:c.f 4=2
   ·have hL:b9 c M.U n=wP c n 0:=by unfold b9;rw[if_neg ao,if_pos h5]
    rw[h4]at x4;have HT:=Ci H1 n 0;obtain⟨Ah,nh,mh,F5,_⟩:=id H1.bw;rw[F5]at HT;have HT:=ae HT;have JY:=aB (∀j v,(ak c (.slice Ah nh mh)).toList[j]? =some v→aE W1 a.x (0+j) v) (fun j v hj=>by
     rw[Nat.zero_add];refine H1.aq.af ?_;rw[F5];unfold br;rw[Array.getElem?_append_left (by have:=(List.getElem?_eq_some_iff.1 hj).1;simpa using this),←Array.getElem?_toList];exact hj)
    have Bh:=ae hL;have fh:=ae hM;have Yy:=ae hT;clear h5 h4 hL hM hT F5;go_wp2_with (first|(refine wpList_load_mid rfl 25 _ rfl a.x 0 rfl (ak c (.slice Ah nh mh)).toList _ JY Tryz.underlying25 rfl bZ ?_)|(go_at_call 46;refine HT.mono ?_;rintro e W2 ⟨rfl,bp⟩;have bf:=ae bp;clear bp))
    go_meet
    case rel=>exact⟨none,0,a.sv,Dr,by rw[Bh.out],by rw[Yy.out];rfl,by rw[Yy.out];exact bg.nil _ _ _,by rw[fh.out];exact H1.keep bf,jL.keep bf,aX.aC bf fun _ h=>h.elim⟩
   ·have hL:b9 c M.U n=0:=by unfold b9;rw[if_pos h4]
    have h4':(c.f 4==2)=false:=by simpa using h4
    have Bh:=ae hL;have fh:=ae hM;have Yy:=ae hT;clear h5 h4 hL hM hT;go_wp2
    go_meet
    case rel=>exact⟨none,0,a.sv,Dr,by rw[Bh.out],by rw[Yy.out];rfl,by rw[Yy.out];exact bg.nil _ _ _,by rw[fh.out];exact H1,jL,aX⟩
 case rest=>
  obtain⟨A2,q2,sv,QE,rfl,rfl,F3,fL,hdd,ho⟩:=hcut;have xa:=ae F3;have tA:=ae hdd;have bf:=ae ho;obtain⟨MX,ZU⟩:∃MX,MX= {bG K.sp c (cN c) M n with ops:=M.ops+1}:=⟨_,rfl⟩;rw[←ZU]at fL;have H2:=ae fL;have fh:=ae ZU;obtain⟨OP,Qm⟩:∃OP:Int,OP=((M.ops+1:Nat):Int):=⟨_,rfl⟩;have oF:=ae Qm;clear Qm ZU F3 fL hdd ho x4 x5 H1 jL aX Ob;generalize wc=W2 at *
  cases wr with
  |false=>
   have Us:=H2.mD;have gw:=MU H2 n
   cases hD:MX.D n with
   |some d0=>
    rw[hD]at gw;have gw:=ae gw;go_upto_region 16 with(go_at_call 43;refine gw.mono ?_;rintro e W3 ⟨rfl,cB⟩;have bn:=ae cB;clear cB);have H3:=ae<|H2.keep bn;have mZ:=ae<|xa.keep bn;have Bt:=ae<|bf.aC bn fun _ h=>h.elim;have HU:=ae<|Ja H3 hD (by rw[fh.out];exact tJ);clear gw Us H2 xa bf tA;have Us:=H3.mD;go_upto_region 17 with(go_at_call 47;refine HU.mono ?_;rintro e W4 ⟨A3,q3,m3,rfl,hd4,Bb,cI⟩;have yA:=ae hd4;have H4:=ae Bb;have bK:=ae cI;clear hd4 Bb cI);have GY:=ae (mZ.aA bK (fun k hk e=>H3.wr k hk (.inl e)) fun k hk e=>by have:=(mZ.aq hk).1;have:=bL.out k (.inl e);omega);have Od:=ae<|Bt.aC bK fun k hk=>.inl (.inl hk);clear HU Us H3 mZ Bt bK bn;obtain⟨Ae,ce,uh,_,_⟩:=H4.en.shape;have uh:a.en= .slice Ae MX.en.length ce:=uh;have nc:=ae uh;obtain⟨X,e1,r1,d1⟩:=H4.en;have bu:ag az W4 (W4.alloc (.cells (jD ⟨i,OP,false,0,d0⟩ (.slice A3 q3 m3)).toArray 58)).drew:=((ag.aj az W4).alloc _).drew;have CV:=aB (∀j u,(jD ⟨i,OP,false,0,d0⟩ (.slice A3 q3 m3))[j]? =some u→(W4.alloc (.cells (jD ⟨i,OP,false,0,d0⟩ (.slice A3 q3 m3)).toArray 58)).drew.cell? ((⟨W4.heap.size,0,none⟩:Addr).add j)=some u) (cV W4 _ _);have lH:=ae e1;have AW:=bk r1 bu fun _ _=>id
    rw[show({a with sv:=sv}:kK).en= .slice Ae MX.en.length ce from uh]at AW;have b5:=ae AW;have jL:=ae<|fun p hp=>(d1 p hp).keep bu;have H5:=ae<|H4.keep bu;have R5:=ae<|yA.keep bu;have nM:=ae<|GY.keep bu;have bM:=ae<|Od.aC bu fun _ h=>h.elim;have tF:=aB (Z.B≤(W4.alloc (.cells (jD ⟨i,OP,false,0,d0⟩ (.slice A3 q3 m3)).toArray 58)).drew.heap.size) (Nat.le_trans H4.zb bu.size);have Ke:=aB (X.length≤1000000) (by
     have h8:X.length=MX.en.length:=by rw[←e1,List.length_map]
     have h9:=Bx.out;rw[h8,fh.out]
     show(bG K.sp c (cN c) M n).en.length≤_
     rw[xJ];exact h9)
    have Zt:aE W4.drew a.x 22 (.slice Ae MX.en.length ce):=by rw[←uh];exact H4.Qn
    have Zu:aw W4.drew a.x 20 OP:=by have ES:W4.cell? ⟨a.x,20,none⟩=_:=H4.Kd;rw[show({MX with s:=K.sp.use MX.s n}:CM K.σ).ops=MX.ops from rfl,fh.out]at ES;rw[oF.out];exact ES
    have Q3:=bu.cell (show aE W4 a.x 22 (.slice Ae MX.en.length ce)from Zt) id;have e20:=bu.cell (show aw W4 a.x 20 OP from Zu) id;clear uh e1 r1 AW d1 bu;go_upto_region 17 with fail;refine dU (fun w':World=>aE w' a.x 22 (.slice Ae MX.en.length ce)∧aw w' a.x 20 OP) 14 fun aH=>?_
    refine bX [0,1,2,3,4,5,6,7,8,9,10] ?_;refine cM 11 fun Kc hK=>?_
    go_simp;refine eh hK fun aH=>?_
    clear hK;refine cM 12 fun Kc hK=>?_
    go_simp;refine eh hK fun aH=>?_
    clear hK;refine cM 13 fun Kc hK=>?_
    refine nV _ (.tmp 128) (.tmp 136) 50 58 rfl yO rfl aD Tryz.underlying50 Z.B (.slice Ae MX.en.length ce) X.length _ (jD ⟨i,OP,false,0,d0⟩ (.slice A3 q3 m3)) rfl b5 ⟨W4.heap.size,0,none⟩ rfl rfl CV eM bR bQ tF ?_;intro v6 W6 h6 bT h9;have EN:∀k,aK v6 k→aK a.en k∨(W4.alloc (.cells (jD ⟨i,OP,false,0,d0⟩ (.slice A3 q3 m3)).toArray 58)).drew.heap.size≤k:=fun k hk=>by
     exact rK
    have bT:ag (aK a.en) (W4.alloc (.cells (jD ⟨i,OP,false,0,d0⟩ (.slice A3 q3 m3)).toArray 58)).drew W6:=by rw[nc.out];exact bT
    have wG:Wr Z (aK a.en) (W4.alloc (.cells (jD ⟨i,OP,false,0,d0⟩ (.slice A3 q3 m3)).toArray 58)).drew:=fun k hk hs=>H5.wr k hk (.inr (.inr (.inr (.inr hs))))
    have tH:=ae<|dy.app (v:=v6) (⟨i,OP,false,0,d0⟩,.slice A3 q3 m3) h6 lH (fun p hp=>(jL p hp).aA bT wG) (R5.aA bT wG);have w9:=ae (nM.aA bT wG fun k hk e=>by have:=(nM.aq hk).1;have:=bL.out k (.inr (.inr (.inr (.inr e))));omega);have zI:=ae EN;have GD:=ae bT;have gX:=bT.aq H5.aq (H5.tC H5.aq aD);have Zt:aE W6 a.x 22 (.slice Ae MX.en.length ce):=by rw[←nc.out];exact gX.af rfl
    have Zu:aw W6 a.x 20 OP:=by have ES:=gX.af (i:=20) (v:=ah (MX.ops:Nat)) rfl;rw[fh.out]at ES;rw[oF.out];exact ES
    have f22:W6.frozen? ⟨a.x,22,none⟩=false:=gX.free _;obtain⟨A6,c6,e6,_,_⟩:=cz h6;subst e6;have xc:=ae gX;clear h6 bT h9 EN wG gX;refine eh hK fun aH=>?_
    clear hK;refine cG ?_;clear aH Q3 e20;go_upto_region 18 with fail;change Code.wp _ _ _ _ (W6.setCell ⟨a.x,22,none⟩ (.slice A6 (X.length+1) c6));obtain⟨ER,dL⟩:=H5.pH GD tH zI;have j7:ag (ar a.x) W6 (W6.setCell ⟨a.x,22,none⟩ (.slice A6 (X.length+1) c6)):=(ag.aj (ar a.x) W6).setCell (p:=⟨a.x,22,none⟩) (.inl (show ar a.x a.x from rfl)) _;have wH:Wr Z (ar a.x) W6:=fun k _ e=>by
     rw[show k=a.x from e];exact⟨H5.lo _ (.inr (.inl rfl)),.inr fun cs hb=>(xc.off hb aD) rfl⟩
    have ej:=ae (w9.aA j7 wH fun k hk e=>by have:=(w9.aq hk).1;have:=bL.out k (by rw[show k=a.x from e];exact .inr (.inl rfl));omega);have H7:=ae ER;have fC:=ae<|bM.trans dL;have CO:∀k,aK (.slice A6 (X.length+1) c6) k→aK a.en k∨w.heap.size≤k:=fun k hk=>(zI k hk).imp id fun e=>Nat.le_trans bM.size e
    have Gw:=ae CO;clear ER dL j7 wH CO Zt Zu f22 GD tH zI w9 xc bM nM R5 H5 b5 jL CV tF GY Od H4 yA;generalize W6.setCell ⟨a.x,22,none⟩ (.slice A6 (X.length+1) c6)=W7 at *;have Vi:(bG K.sp c (cN c) M n).D n=some d0:=by have h3:=hD;rw[fh.out]at h3;exact h3
    have wK: {MX with s:=K.sp.use MX.s n,en:=MX.en ++ [⟨i,OP,false,0,d0⟩]}=bB K.sp c (cN c) M i false n d:=by
     exact sI
    have EY:=ae wK;clear wK;have HD0:=ae Vi;clear Vi hD;go_wp2;go_ret;refine⟨_,{a with sv:=sv,en:=.slice A6 (X.length+1) c6},QE,rfl,?_,EY.out▸H7.out,⟨rfl,rfl,rfl,fun k hk=>?_,fC⟩⟩
    ·unfold dK;rw[if_pos ⟨rfl,by rw[HD0.out];rfl⟩];exact ej
    ·rcases hk with e|e|e|e|e
     ·exact .inl (.inl e)
     ·exact .inl (.inr (.inl e))
     ·exact .inl (.inr (.inr (.inl e)))
     ·exact .inl (.inr (.inr (.inr (.inl e))))
     ·exact(Gw k e).imp (fun e=>.inr (.inr (.inr (.inr e)))) id
   |none=>
    rw[hD]at gw;have gw:=ae gw;go_upto_region 19 with(go_at_call 43;refine gw.mono ?_;rintro e W3 ⟨rfl,cB⟩;have RV:=ae cB;clear cB);have H3:=ae<|H2.keep RV;have mZ:=ae<|xa.keep RV;have tf:=ae<|tA.keep RV;have bn:=ae<|bf.aC RV fun _ h=>h.elim;clear gw Us H2 xa bf tA RV;have FY:aw W3 a.x 20 OP:=by have ES:=H3.Kd;rw[fh.out]at ES;rw[oF.out];exact ES
    have bu:ag az W3 (W3.alloc (.cells #[ah OP,ah n,ah (b9 c M.U n),.bool false,aJ] 54)):=(ag.aj az W3).alloc _;have jX:=ae<|Box.fresh W3 54 #[ah OP,ah n,ah (b9 c M.U n),.bool false,aJ];have H5:=ae<|H3.keep bu;have vg:=ae<|tf.keep bu;have nM:=ae<|mZ.keep bu;have bM:=ae<|bn.aC bu fun _ h=>h.elim;have lF:=aB (w.heap.size≤W3.heap.size) (bn.size);go_upto_region 20 with fail;change Code.wp _ _ _ _ (W3.alloc (.cells #[ah OP,ah n,ah (b9 c M.U n),.bool false,aJ] 54));clear FY bu H3 tf mZ bn;generalize W3.alloc (.cells #[ah OP,ah n,ah (b9 c M.U n),.bool false,aJ] 54)=W5 at *;generalize W3.heap.size=tb at *;have oD:=ae jX;have H7:=ae H5;have vJ:=ae vg;have ej:=ae nM;have fC:=ae bM;clear jX H5 vg nM bM;generalize W5=W7 at *;go_upto_region 22 with fail;have k0:aE W7.drew a.x 19 (aU a.a8 (cN c) (cN c)):=H7.pw;have k1:aw W7.drew tb 0 OP:=oD.af rfl;have k2:aw W7.drew tb 1 n:=oD.af rfl;have k3:aw W7.drew tb 2 (b9 c M.U n):=oD.af rfl;have k4:aE W7.drew tb 3 (.bool false):=oD.af rfl;have k5:aE W7.drew tb 4 aJ:=oD.af rfl;have bw:(i:Int)<cN c:=by have:=HI.out;omega
    have F4:(0:Int)≤(i:Int):=Int.natCast_nonneg i;have mX:cN c≤4:=kD.2.1;go_upto_region 22 with fail;refine dU (fun w':World=>aE w' a.x 19 (aU a.a8 (cN c) (cN c))∧aw w' tb 0 OP∧aw w' tb 1 n∧aw w' tb 2 (b9 c M.U n)∧aE w' tb 3 (.bool false)∧aE w' tb 4 aJ) 7 fun aH=>?_
    refine bX [0,1,2,3,4,5,6] ?_;refine cG ?_;clear aH k0 k1 k2 k3 k4 k5;have sT:=aB (W7.drew.there a.a8 (i*5) 5) ((show Box W7.drew a.a8 54 _ from H7.slots).there (by rw[xD];have:=HI.out;omega));go_upto_region 23 with(refine wpList_store_mid rfl 54 _ _ rfl a.a8 (i*5) #[ah OP,ah n,ah (b9 c M.U n),.bool false,aJ] rfl rfl sT bZ a6 ?_);obtain⟨W8,e8⟩:∃W8,W8=((((W7.drew.setCell ⟨a.a8,i*5,none⟩ (ah OP)).setCell ⟨a.a8,i*5+1,none⟩ (ah n)).setCell ⟨a.a8,i*5+2,none⟩ (ah (b9 c M.U n))).setCell ⟨a.a8,i*5+3,none⟩ (.bool false)).setCell ⟨a.a8,i*5+4,none⟩ aJ:=⟨_,rfl⟩;change Code.wp _ _ _ _ (((((W7.drew.setCell ⟨a.a8,i*5,none⟩ (ah OP)).setCell ⟨a.a8,i*5+1,none⟩ (ah n)).setCell ⟨a.a8,i*5+2,none⟩ (ah (b9 c M.U n))).setCell ⟨a.a8,i*5+3,none⟩ (.bool false)).setCell ⟨a.a8,i*5+4,none⟩ aJ);have UF:Box W8 a.a8 54 (mC (cN c) (aI (fun j=>sR (MX.S j) (a.dv j)) i (sR ⟨OP,n,b9 c M.U n,false,[]⟩ aJ))):=by
     rw[←oW (cN c) _ HI.out];exact e8▸((((((show Box W7.drew a.a8 54 _ from H7.slots).store (i*5) (ah OP)).store (i*5+1) (ah n)).store (i*5+2) (ah (b9 c M.U n))).store (i*5+3) (.bool false)).store (i*5+4) aJ)
    have j8:ag (ar a.a8) W7 W8:=e8▸((((((ag.aj (ar a.a8) W7).drew).setCell (p:=⟨a.a8,i*5,none⟩) (.inl (show ar a.a8 a.a8 from rfl)) _).setCell (p:=⟨a.a8,i*5+1,none⟩) (.inl (show ar a.a8 a.a8 from rfl)) _).setCell (p:=⟨a.a8,i*5+2,none⟩) (.inl (show ar a.a8 a.a8 from rfl)) _).setCell (p:=⟨a.a8,i*5+3,none⟩) (.inl (show ar a.a8 a.a8 from rfl)) _).setCell (p:=⟨a.a8,i*5+4,none⟩) (.inl (show ar a.a8 a.a8 from rfl)) _;have kW:∀k,ar a.a8 k→cR o a k:=fun k hk=>by rw[show k=a.a8 from hk];exact .inr (.inr (.inr (.inl rfl)))
    have hW8:Wr Z (ar a.a8) W7:=fun k hk hs=>H7.wr k hk (kW k hs)
    have H8:=ae<|H7.vi (s:=⟨OP,n,b9 c M.U n,false,[]⟩) j8 UF (cX.nil _ _);have ix:=ae<|fC.aC j8 fun k hk=>.inl (kW k hk);have nL:=ae (ej.aA j8 hW8 fun k hk e=>by have:=(ej.aq hk).1;have:=bL.out k (kW k e);omega);rw[←e8];clear e8 UF j8 kW hW8 bw F4 mX H7 fC vJ ej sT oD;have kz:aE W8 a.x 21 (.bool M.up):=by have h21:=H8.yh;rw[fh.out]at h21;rw[←xI (c:=c) K.sp (cN c) M n];exact h21
    cases fK:M.up with
    |true=>
     rw[fK]at kz;have HA:=ae<|Cj H8 HI (op:=OP) (blk:=n) (lev:=b9 c M.U n) (dt:=[]) (fU _ _ _);unfold dW at HA;go_upto_region 25 with(first|(go_at_call 48;refine HA.mono ?_;rintro e W9 ⟨A7,n7,m7,rfl,Ba,dL⟩;have bu:=dL.alloc (.cells (dW 1 i OP n (b9 c M.U n) (.slice A7 n7 m7)) 37);have H9:=ae<|H8.keep bu;have kf:=ae<|ix.aC bu fun _ h=>h.elim;have nK:=ae<|nL.keep bu;have NY:=ae<|Ba.keep ((ag.aj az W9).alloc (.cells (dW 1 i OP n (b9 c M.U n) (.slice A7 n7 m7)) 37));obtain⟨X,e1,r1,d1⟩:=nK.out;have lH:=ae e1;have b5:=ae r1;have tI:=ae d1;have Ke:=aB (X.length≤4) jB;clear bu Ba dL e1 r1 d1)|(at_builtin;refine ef _ rfl (.tmp 166) (.tmp 170) 40 37 rfl oC rfl aD Tryz.underlying40 w.heap.size _ X.length _ (dW 1 i OP n (b9 c M.U n) (.slice A7 n7 m7)).toList rfl b5 ⟨W9.heap.size,0,none⟩ rfl rfl (cV W9 _ _) dS bR bQ kf.size ?_;intro v8 ga h8 eT _;have kW:=nK.wr H0.out;have Ib:=ae<|bg.app (v':=undef) (CH 1 i OP n (b9 c M.U n) 0 [],.slice A7 n7 m7) h8 lH (fun q hq=>(tI q hq).aA eT kW) (NY.aA eT kW);have wO:=ae<|H9.dC eT kW (fun j hj e=>by have:=(nK.aq e).1;have:=iA.out j hj;omega) (fun j hj=>by obtain⟨_,cs,hb⟩:=nK.aq hj;exact⟨_,cs,hb,aD,aD,aD⟩);have kh:=ae<|kf.aC eT fun j hj=>.inr (nK.aq hj).1;obtain⟨A8,c8,e8,_,_⟩:=cz h8;subst e8;clear h8 eT kW));have wK: {MX with S:=aI MX.S i ⟨OP,n,b9 c M.U n,false,[]⟩}=bB K.sp c (cN c) M i false n d:=by
      exact ji
     have EY:=ae wK;clear wK;go_wp2;go_ret;refine⟨_,{a with sv:=sv,dv:=aI a.dv i aJ},QE,rfl,?_,EY.out▸wO.out,⟨rfl,rfl,rfl,fun k hk=>.inl hk,kh⟩⟩;unfold dK;rw[if_neg (fun e=>by have h2:=e.2;have h3:=hD;rw[fh.out]at h3;rw[show(bG K.sp c (cN c) M n).D n=none from h3]at h2;cases h2)];rw[fK,if_pos rfl];rw[←oF.out];exact Ib
    |false=>
     rw[fK]at kz;go_upto_region 25 with fail;have wK: {MX with S:=aI MX.S i ⟨OP,n,b9 c M.U n,false,[]⟩}=bB K.sp c (cN c) M i false n d:=by
      exact ji
     have EY:=ae wK;clear wK;go_wp2;go_ret;refine⟨_,{a with sv:=sv,dv:=aI a.dv i aJ},QE,rfl,?_,EY.out▸H8.out,⟨rfl,rfl,rfl,fun k hk=>.inl hk,ix⟩⟩;unfold dK;rw[if_neg (fun e=>by have h2:=e.2;have h3:=hD;rw[fh.out]at h3;rw[show(bG K.sp c (cN c) M n).D n=none from h3]at h2;cases h2)];rw[fK,if_neg aD,List.append_nil];exact nL
  |true=>
   have FY:aw W2 a.x 20 OP:=by have ES:=H2.Kd;rw[fh.out]at ES;rw[oF.out];exact ES
   have bu:ag az W2 (W2.alloc (.cells #[ah OP,ah n,ah (b9 c M.U n),.bool true,aJ] 54)):=(ag.aj az W2).alloc _;have jX:=ae<|Box.fresh W2 54 #[ah OP,ah n,ah (b9 c M.U n),.bool true,aJ];have H5:=ae<|H2.keep bu;have vg:=ae<|tA.keep bu;have nM:=ae<|xa.keep bu;have bM:=ae<|bf.aC bu fun _ h=>h.elim;have lF:=aB (w.heap.size≤W2.heap.size) (bf.size);go_upto_region 20 with fail;change Code.wp _ _ _ _ (W2.alloc (.cells #[ah OP,ah n,ah (b9 c M.U n),.bool true,aJ] 54));clear FY bu H2 tA xa bf;generalize W2.alloc (.cells #[ah OP,ah n,ah (b9 c M.U n),.bool true,aJ] 54)=W5 at *;generalize W2.heap.size=tb at *;obtain⟨As,cs,es,pA,kC,gj⟩:=id vg.1;injection es with es1 es2 es3;subst es1 es3;have tG:=ae gj;have Vt:=ae kC;have y4:aE W5 tb 4 aJ:=jX.af rfl;have bU:=ae (show([]:List Value).length+(bytes d).length≤maxLen by rw[gq];have:=Vt.out;unfold maxLen;simp;omega);have cO:=ae (show(([]:List Value).length+(bytes d).length)*1≤140737488355328 by rw[gq];have:=Vt.out;simp;omega);clear pA kC gj es2;go_upto_region 22 with(at_builtin;refine cy _ rfl (.tmp 151) (.tmp 152) 35 5 rfl nr rfl Tryz.underlying35 aJ [] rfl (Row.vK _ _) A d.length q (bytes d) rfl fp tG (mW d) bU cO ?_;intro v' W6 Qg bT hk6 _;have bT:=bT.mono (S':=az) (fun j hj=>(a7 hj).elim);rw[List.nil_append]at Qg;obtain⟨A5,c5,e5a,_,_⟩:=Qg.shape;have e5:v'= .slice A5 d.length c5:=(by rw[e5a,gq]);clear e5a;subst e5;have tz:=ae Qg;have wZ:=ae bT;have HK6:=ae hk6;have f4:W6.frozen? ⟨tb,4,none⟩=false:=(bT.aq jX id).free 4;have z4:aE W6 tb 4 aJ:=(bT.aq jX id).af rfl;clear Qg bT hk6 y4);have Kl:=aB (cX Z W6 (.slice A5 d.length c5) d) (cX.row tz Vt fun k hk e=>by
    rcases HK6 k hk with e9|e9
    ·exact(a7 e9).elim
    ·have h1:=H5.kB (.inl ((H5.zn k).1 e));omega)
   have UG:=wZ.aq jX id;have j7:ag (ar tb) W6 (W6.setCell ⟨tb,4,none⟩ (.slice A5 d.length c5)):=(ag.aj (ar tb) W6).setCell (p:=⟨tb,4,none⟩) (.inl (show ar tb tb from rfl)) _;have Vg:Wr Z (ar tb) W6:=fun k hk e=>by rw[show k=tb from e];exact⟨Nat.le_trans H0 lF,.inr fun cs hb=>(UG.off hb aD) rfl⟩
   have oD:=aB (Box _ tb 54 #[ah OP,ah n,ah (b9 c M.U n),.bool true,.slice A5 d.length c5]) (UG.store 4 (.slice A5 d.length c5));have H7:=ae<|(H5.keep wZ).dC j7 Vg (fun k hk e=>by have:=iA.out k hk;have:=lF.out;have e:k=tb:=e;omega) fun k hk=>⟨_,_,(show k=tb from hk)▸UG,aD,aD,aD⟩;have vJ:=ae<|Kl.aA j7 Vg;have ej:=ae ((nM.keep wZ).aA j7 Vg fun k hk e=>by
    obtain⟨_,cs,hb⟩:=(nM.keep wZ).aq hk;exact(hb.off UG aD) e)
   have fC:=ae<|(bM.aC wZ fun _ h=>h.elim).aC j7 fun k hk=>.inr (by rw[show k=tb from hk];exact lF);change Code.wp _ _ _ _ (W6.setCell ⟨tb,4,none⟩ (.slice A5 d.length c5));clear f4 z4 UG j7 Vg Kl tz wZ HK6 jX H5 vg nM bM tG bU cO;generalize W6.setCell ⟨tb,4,none⟩ (.slice A5 d.length c5)=W7 at *;go_upto_region 22 with fail;have k0:aE W7.drew a.x 19 (aU a.a8 (cN c) (cN c)):=H7.pw;have k1:aw W7.drew tb 0 OP:=oD.af rfl;have k2:aw W7.drew tb 1 n:=oD.af rfl;have k3:aw W7.drew tb 2 (b9 c M.U n):=oD.af rfl;have k4:aE W7.drew tb 3 (.bool true):=oD.af rfl;have k5:aE W7.drew tb 4 (.slice A5 d.length c5):=oD.af rfl;have bw:(i:Int)<cN c:=by have:=HI.out;omega
   have F4:(0:Int)≤(i:Int):=Int.natCast_nonneg i;have mX:cN c≤4:=kD.2.1;go_upto_region 22 with fail;refine dU (fun w':World=>aE w' a.x 19 (aU a.a8 (cN c) (cN c))∧aw w' tb 0 OP∧aw w' tb 1 n∧aw w' tb 2 (b9 c M.U n)∧aE w' tb 3 (.bool true)∧aE w' tb 4 (.slice A5 d.length c5)) 7 fun aH=>?_
   refine bX [0,1,2,3,4,5,6] ?_;refine cG ?_;clear aH k0 k1 k2 k3 k4 k5;have sT:=aB (W7.drew.there a.a8 (i*5) 5) ((show Box W7.drew a.a8 54 _ from H7.slots).there (by rw[xD];have:=HI.out;omega));go_upto_region 23 with(refine wpList_store_mid rfl 54 _ _ rfl a.a8 (i*5) #[ah OP,ah n,ah (b9 c M.U n),.bool true,.slice A5 d.length c5] rfl rfl sT bZ a6 ?_);obtain⟨W8,e8⟩:∃W8,W8=((((W7.drew.setCell ⟨a.a8,i*5,none⟩ (ah OP)).setCell ⟨a.a8,i*5+1,none⟩ (ah n)).setCell ⟨a.a8,i*5+2,none⟩ (ah (b9 c M.U n))).setCell ⟨a.a8,i*5+3,none⟩ (.bool true)).setCell ⟨a.a8,i*5+4,none⟩ (.slice A5 d.length c5):=⟨_,rfl⟩;change Code.wp _ _ _ _ (((((W7.drew.setCell ⟨a.a8,i*5,none⟩ (ah OP)).setCell ⟨a.a8,i*5+1,none⟩ (ah n)).setCell ⟨a.a8,i*5+2,none⟩ (ah (b9 c M.U n))).setCell ⟨a.a8,i*5+3,none⟩ (.bool true)).setCell ⟨a.a8,i*5+4,none⟩ (.slice A5 d.length c5));have UF:Box W8 a.a8 54 (mC (cN c) (aI (fun j=>sR (MX.S j) (a.dv j)) i (sR ⟨OP,n,b9 c M.U n,true,d⟩ (.slice A5 d.length c5)))):=by
    rw[←oW (cN c) _ HI.out];exact e8▸((((((show Box W7.drew a.a8 54 _ from H7.slots).store (i*5) (ah OP)).store (i*5+1) (ah n)).store (i*5+2) (ah (b9 c M.U n))).store (i*5+3) (.bool true)).store (i*5+4) (.slice A5 d.length c5))
   have j8:ag (ar a.a8) W7 W8:=e8▸((((((ag.aj (ar a.a8) W7).drew).setCell (p:=⟨a.a8,i*5,none⟩) (.inl (show ar a.a8 a.a8 from rfl)) _).setCell (p:=⟨a.a8,i*5+1,none⟩) (.inl (show ar a.a8 a.a8 from rfl)) _).setCell (p:=⟨a.a8,i*5+2,none⟩) (.inl (show ar a.a8 a.a8 from rfl)) _).setCell (p:=⟨a.a8,i*5+3,none⟩) (.inl (show ar a.a8 a.a8 from rfl)) _).setCell (p:=⟨a.a8,i*5+4,none⟩) (.inl (show ar a.a8 a.a8 from rfl)) _;have kW:∀k,ar a.a8 k→cR o a k:=fun k hk=>by rw[show k=a.a8 from hk];exact .inr (.inr (.inr (.inl rfl)))
   have hW8:Wr Z (ar a.a8) W7:=fun k hk hs=>H7.wr k hk (kW k hs)
   have H8:=ae<|H7.vi (s:=⟨OP,n,b9 c M.U n,true,d⟩) j8 UF vJ;have ix:=ae<|fC.aC j8 fun k hk=>.inl (kW k hk);have nL:=ae (ej.aA j8 hW8 fun k hk e=>by have:=(ej.aq hk).1;have:=bL.out k (kW k e);omega);rw[←e8];clear e8 UF j8 kW hW8 bw F4 mX H7 fC vJ ej sT oD;have kz:aE W8 a.x 21 (.bool M.up):=by have h21:=H8.yh;rw[fh.out]at h21;rw[←xI (c:=c) K.sp (cN c) M n];exact h21
   cases fK:M.up with
   |true=>
    rw[fK]at kz;have HA:=ae<|zZ H8 HI (op:=OP) (blk:=n) (lev:=b9 c M.U n) (dt:=d) (fU _ _ _);unfold dW at HA;go_upto_region 25 with(first|(go_at_call 48;refine HA.mono ?_;rintro e W9 ⟨A7,n7,m7,rfl,Ba,dL⟩;have bu:=dL.alloc (.cells (dW 2 i OP n (b9 c M.U n) (.slice A7 n7 m7)) 37);have H9:=ae<|H8.keep bu;have kf:=ae<|ix.aC bu fun _ h=>h.elim;have nK:=ae<|nL.keep bu;have NY:=ae<|Ba.keep ((ag.aj az W9).alloc (.cells (dW 2 i OP n (b9 c M.U n) (.slice A7 n7 m7)) 37));obtain⟨X,e1,r1,d1⟩:=nK.out;have lH:=ae e1;have b5:=ae r1;have tI:=ae d1;have Ke:=aB (X.length≤4) jB;clear bu Ba dL e1 r1 d1)|(at_builtin;refine ef _ rfl (.tmp 166) (.tmp 170) 40 37 rfl oC rfl aD Tryz.underlying40 w.heap.size _ X.length _ (dW 2 i OP n (b9 c M.U n) (.slice A7 n7 m7)).toList rfl b5 ⟨W9.heap.size,0,none⟩ rfl rfl (cV W9 _ _) dS bR bQ kf.size ?_;intro v8 ga h8 eT _;have kW:=nK.wr H0.out;have Ib:=ae<|bg.app (v':=undef) (CH 2 i OP n (b9 c M.U n) 0 d,.slice A7 n7 m7) h8 lH (fun q hq=>(tI q hq).aA eT kW) (NY.aA eT kW);have wO:=ae<|H9.dC eT kW (fun j hj e=>by have:=(nK.aq e).1;have:=iA.out j hj;omega) (fun j hj=>by obtain⟨_,cs,hb⟩:=nK.aq hj;exact⟨_,cs,hb,aD,aD,aD⟩);have kh:=ae<|kf.aC eT fun j hj=>.inr (nK.aq hj).1;obtain⟨A8,c8,e8,_,_⟩:=cz h8;subst e8;clear h8 eT kW));have wK: {MX with S:=aI MX.S i ⟨OP,n,b9 c M.U n,true,d⟩}=bB K.sp c (cN c) M i true n d:=by
     exact jm
    have EY:=ae wK;clear wK;go_wp2;go_ret;refine⟨_,{a with sv:=sv,dv:=aI a.dv i (.slice A5 d.length c5)},QE,rfl,?_,EY.out▸wO.out,⟨rfl,rfl,rfl,fun k hk=>.inl hk,kh⟩⟩;unfold dK;rw[if_neg (fun e=>by cases e.1)];rw[fK,if_pos rfl];rw[←oF.out];exact Ib
   |false=>
    rw[fK]at kz;go_upto_region 25 with fail;have wK: {MX with S:=aI MX.S i ⟨OP,n,b9 c M.U n,true,d⟩}=bB K.sp c (cN c) M i true n d:=by
     exact jm
    have EY:=ae wK;clear wK;go_wp2;go_ret;refine⟨_,{a with sv:=sv,dv:=aI a.dv i (.slice A5 d.length c5)},QE,rfl,?_,EY.out▸H8.out,⟨rfl,rfl,rfl,fun k hk=>.inl hk,ix⟩⟩;unfold dK;rw[if_neg (fun e=>by cases e.1)];rw[fK,if_neg aD,List.append_nil];exact nL
end
end
end Go.Proofs.YtchofaecncibjaaGreat

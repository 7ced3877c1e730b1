/- Lemmas. -/
import Derived.Test.YtpcfhbeakecihaaGreatM14
import Derived.Test.YtpcfhbeakecihaaGreatM35
set_option linter.all false
set_option maxHeartbeats 20000000
set_option maxRecDepth 100000
namespace Go.Proofs.YtpcfhbeakecihaaGreat
open Go.ChangeShapes Go.RowKit Go.WideShapes
def eJ (v:Int)(d:Value)(g:Bool)(e:Int):Array Value:=#[ah v,d,.bool g,ah e]
theorem kU (v:Int)(A:Option Addr)(n c:Nat)(g:Bool)(e:Int):(eJ v (.slice A n c) g e).all (·.oneCell')=true:=by simp[eJ,Value.oneCell']
theorem Box.there {w:World}{g:Nat}{t:TypeId}{cs:Array Value}(h:Box w g t cs){o n:Nat}(hn:o+n≤cs.size):w.there g o n:=fun j hj=>⟨by rw[h.cell (o+j),Array.getElem?_eq_getElem aj];rfl,h.free _⟩
def Fy {K:bj}{c:aQ}{k:Nat}(o:ir K c k)(i:A9)(s:K.σ)(Dr:Nat→List Int)(n:Nat)(dl:List Int)(w:World)(e:Ending)(w':World):Prop:=
 ∃vd,e= .returned (.agg (eJ (if(K.sp.add s n).2.2=true then(K.sp.add s n).2.1 else 0) vd (K.sp.add s n).2.2 0))∧kA w' vd (if(K.sp.add s n).2.2=true then Dr (K.sp.add s n).2.1.toNat else[])∧
  (∀j,aJ vd j→o.B≤j)∧qP o i (K.sp.add s n).1 (ba Dr n dl) w'∧af (td o i) w w'
section
variable {K:bj}{c:aQ}{k:Nat}{o:ir K c k}{i:A9}{s:K.σ}{Dr:Nat→List Int}{w:World}
theorem RM {b:Int}{dl:List Int}{u:Value}{level:Int}(h:qP o i s Dr w)(iq:cH w u dl)(hb:b<0):
 Calls Tryz.prog 46 #[aO i.cb,.agg #[ah b,u],ah level] w fun e w'=>e= .returned (.agg (eJ 0 aT false 9))∧af au w w':=by
 have AU:decide (b<0)=true:=decide_eq_true hb;obtain⟨A,cp,rfl,hle,hmax,iD⟩:=iq;have DF:=ae iD;have KK:=ae hmax;obtain⟨lv,dv,h⟩:=h;have HW:=ae fun(g:Nat) (hg:w.heap.size≤g)=>h.Bj hg
 have HB:=ae<|Box.fresh w 87 #[ah b,.slice A dl.length cp];have HO:=ae<|(af.ai au w).alloc (.cells #[ah b,.slice A dl.length cp] 87);have H:=ae<|h.keep HO;have Ka:=ae h.right.p3;clear iD hmax hle h hb
 go_enter Tryz.func46,Tryz.ntmps46
 go_upto_region 1 with fail;change Code.wp _ _ _ _ ((w.alloc (.cells #[ah b,.slice A dl.length cp] 87)).alloc (.cells (eJ 0 aT false 0) 89));have hsz:(w.alloc (.cells #[ah b,.slice A dl.length cp] 87)).heap.size=w.heap.size+1:=World.size_alloc ..;generalize w.alloc (.cells #[ah b,.slice A dl.length cp] 87)=W0 at *;obtain⟨fb,iQ⟩:∃fb,fb=w.heap.size:=⟨_,rfl⟩;have rB:=aq (w.heap.size≤fb) (Nat.le_of_eq iQ.symm);rw[←iQ]at HB hsz ⊢;clear iQ;have aK:af au W0 (W0.alloc (.cells (eJ 0 aT false 0) 89)):=(af.ai au W0).alloc _;have cy:=ae<|Box.fresh W0 89 (eJ 0 aT false 0);have kr:=ae<|aK.ak HB id;have bc:=ae<|HO.trans aK;have H1:=ae<|H.keep aK;clear aK HB HO H;generalize W0.alloc (.cells (eJ 0 aT false 0) 89)=W1 at *;rw[hsz]at cy;clear hsz;have dt:=ae (show w.heap.size≤fb+1 by have:=rB.out;omega);generalize fb+1=rb at *;have k1:aF W1.drew fb 0 b:=kr.ag rfl;have k3:aF W1.drew i.cb 2 (c.f 2):=kB H1.ak aE;refine pG (fun w':World=>aF w' fb 0 b∧aF w' i.cb 2 (c.f 2)) 12 fun aC=>?_
 refine Dk [0,1,2,3,4,5,6,7,8,9,10,11] ?_;refine dE ?_;clear aC k1 k3;go_upto_region 2 with fail;have fX:=aq (Box W1.drew rb 89 (eJ 0 aT false 0)) (cy);have lE:=aq (Box W1.drew fb 87 _) (kr);have bu:=ae bc.drew;have H2:=ae<|H1.keep ((af.ai au W1).drew);clear cy kr bc H1;generalize W1.drew=W2 at *;go_wp2_with (refine iP (eJ 0 aT false 9) fX (kU _ _ _ _ _ _) ?_);refine bodyPost_ret (results_cell_row rfl _ _ rb _ (eJ 0 aT false 9) (0,0) _ rfl (fX.aw _) Tryz.underlying89 rfl aS) rfl ?_;exact⟨rfl,bu.aw (.inr dt) _⟩
theorem RL {b:Int}{dl:List Int}{u:Value}{level:Int}(h:qP o i s Dr w)(iq:cH w u dl)(hb:0≤b)(ez:c.f 2≤b):
 Calls Tryz.prog 46 #[aO i.cb,.agg #[ah b,u],ah level] w fun e w'=>e= .returned (.agg (eJ 0 aT false 9))∧af au w w':=by
 have AU:decide (b<0)=false:=decide_eq_false aj;have JV:decide (c.f 2≤b)=true:=decide_eq_true ez;obtain⟨A,cp,rfl,hle,hmax,iD⟩:=iq;have DF:=ae iD;have KK:=ae hmax;obtain⟨lv,dv,h⟩:=h;have HW:=ae fun(g:Nat) (hg:w.heap.size≤g)=>h.Bj hg
 have HB:=ae<|Box.fresh w 87 #[ah b,.slice A dl.length cp];have HO:=ae<|(af.ai au w).alloc (.cells #[ah b,.slice A dl.length cp] 87);have H:=ae<|h.keep HO;have Ka:=ae h.right.p3;clear iD hmax hle h hb ez
 go_enter Tryz.func46,Tryz.ntmps46
 go_upto_region 1 with fail;change Code.wp _ _ _ _ ((w.alloc (.cells #[ah b,.slice A dl.length cp] 87)).alloc (.cells (eJ 0 aT false 0) 89));have hsz:(w.alloc (.cells #[ah b,.slice A dl.length cp] 87)).heap.size=w.heap.size+1:=World.size_alloc ..;generalize w.alloc (.cells #[ah b,.slice A dl.length cp] 87)=W0 at *;obtain⟨fb,iQ⟩:∃fb,fb=w.heap.size:=⟨_,rfl⟩;have rB:=aq (w.heap.size≤fb) (Nat.le_of_eq iQ.symm);rw[←iQ]at HB hsz ⊢;clear iQ;have aK:af au W0 (W0.alloc (.cells (eJ 0 aT false 0) 89)):=(af.ai au W0).alloc _;have cy:=ae<|Box.fresh W0 89 (eJ 0 aT false 0);have kr:=ae<|aK.ak HB id;have bc:=ae<|HO.trans aK;have H1:=ae<|H.keep aK;clear aK HB HO H;generalize W0.alloc (.cells (eJ 0 aT false 0) 89)=W1 at *;rw[hsz]at cy;clear hsz;have dt:=ae (show w.heap.size≤fb+1 by have:=rB.out;omega);generalize fb+1=rb at *;have k1:aF W1.drew fb 0 b:=kr.ag rfl;have k3:aF W1.drew i.cb 2 (c.f 2):=kB H1.ak aE;refine pG (fun w':World=>aF w' fb 0 b∧aF w' i.cb 2 (c.f 2)) 12 fun aC=>?_
 refine bE [0,1,2,3,4,5,6,7,8,9,10,11] ?_;refine dE ?_;clear aC k1 k3;go_upto_region 2 with fail;have fX:=aq (Box W1.drew rb 89 (eJ 0 aT false 0)) (cy);have lE:=aq (Box W1.drew fb 87 _) (kr);have bu:=ae bc.drew;have H2:=ae<|H1.keep ((af.ai au W1).drew);clear cy kr bc H1;generalize W1.drew=W2 at *;go_wp2_with (refine iP (eJ 0 aT false 9) fX (kU _ _ _ _ _ _) ?_);refine bodyPost_ret (results_cell_row rfl _ _ rb _ (eJ 0 aT false 9) (0,0) _ rfl (fX.aw _) Tryz.underlying89 rfl aS) rfl ?_;exact⟨rfl,bu.aw (.inr dt) _⟩
theorem RN {b:Int}{dl:List Int}{u:Value}{level:Int}(h:qP o i s Dr w)(iq:cH w u dl)(hb:0≤b)(ez:b<c.f 2)(hl:(dl.length:Int)≠c.f 3):
 Calls Tryz.prog 46 #[aO i.cb,.agg #[ah b,u],ah level] w fun e w'=>e= .returned (.agg (eJ 0 aT false 10))∧af au w w':=by
 have AU:decide (b<0)=false:=decide_eq_false aj;have JV:decide (c.f 2≤b)=false:=decide_eq_false aj;have VX:((dl.length:Int) != c.f 3)=true:=by rw[bne_iff_ne];exact hl
 obtain⟨A,cp,rfl,hle,hmax,iD⟩:=iq;have DF:=ae iD;have KK:=ae hmax;obtain⟨lv,dv,h⟩:=h;have HW:=ae fun(g:Nat) (hg:w.heap.size≤g)=>h.Bj hg
 have HB:=ae<|Box.fresh w 87 #[ah b,.slice A dl.length cp];have HO:=ae<|(af.ai au w).alloc (.cells #[ah b,.slice A dl.length cp] 87);have H:=ae<|h.keep HO;have Ka:=ae h.right.p3;clear iD hmax hle h hb ez hl
 go_enter Tryz.func46,Tryz.ntmps46
 go_upto_region 1 with fail;change Code.wp _ _ _ _ ((w.alloc (.cells #[ah b,.slice A dl.length cp] 87)).alloc (.cells (eJ 0 aT false 0) 89));have hsz:(w.alloc (.cells #[ah b,.slice A dl.length cp] 87)).heap.size=w.heap.size+1:=World.size_alloc ..;generalize w.alloc (.cells #[ah b,.slice A dl.length cp] 87)=W0 at *;obtain⟨fb,iQ⟩:∃fb,fb=w.heap.size:=⟨_,rfl⟩;have rB:=aq (w.heap.size≤fb) (Nat.le_of_eq iQ.symm);rw[←iQ]at HB hsz ⊢;clear iQ;have aK:af au W0 (W0.alloc (.cells (eJ 0 aT false 0) 89)):=(af.ai au W0).alloc _;have cy:=ae<|Box.fresh W0 89 (eJ 0 aT false 0);have kr:=ae<|aK.ak HB id;have bc:=ae<|HO.trans aK;have H1:=ae<|H.keep aK;clear aK HB HO H;generalize W0.alloc (.cells (eJ 0 aT false 0) 89)=W1 at *;rw[hsz]at cy;clear hsz;have dt:=ae (show w.heap.size≤fb+1 by have:=rB.out;omega);generalize fb+1=rb at *;have k1:aF W1.drew fb 0 b:=kr.ag rfl;have k3:aF W1.drew i.cb 2 (c.f 2):=kB H1.ak aE;refine pG (fun w':World=>aF w' fb 0 b∧aF w' i.cb 2 (c.f 2)) 12 fun aC=>?_
 refine bE [0,1,2,3,4,5,6,7,8,9,10,11] ?_;refine dE ?_;clear aC k1 k3;go_upto_region 3 with fail;have fX:=aq (Box W1.drew rb 89 (eJ 0 aT false 0)) (cy);have lE:=aq (Box W1.drew fb 87 _) (kr);have bu:=ae bc.drew;have H2:=ae<|H1.keep ((af.ai au W1).drew);clear cy kr bc H1;generalize W1.drew=W2 at *;have k1:aM W2.drew fb 1 (.slice A dl.length cp):=lE.ag rfl;have k3:aF W2.drew i.cb 3 (c.f 3):=kB H2.ak aE;refine pG (fun w':World=>aM w' fb 1 (.slice A dl.length cp)∧aF w' i.cb 3 (c.f 3)) 8 fun aC=>?_
 refine bE [0,1,2,3,4,5,6,7] ?_;refine dE ?_;clear aC k1 k3;go_upto_region 4 with fail;have ej:=aq (Box W2.drew rb 89 (eJ 0 aT false 0)) (fX);have vj:=aq (Box W2.drew fb 87 _) (lE);have bI:=ae bu.drew;have H3:=ae<|H2.keep ((af.ai au W2).drew);clear fX lE bu H2;generalize W2.drew=W3 at *;go_wp2_with (refine iP (eJ 0 aT false 10) ej (kU _ _ _ _ _ _) ?_);refine bodyPost_ret (results_cell_row rfl _ _ rb _ (eJ 0 aT false 10) (0,0) _ rfl (ej.aw _) Tryz.underlying89 rfl aS) rfl ?_;exact⟨rfl,bI.aw (.inr dt) _⟩
theorem Ul {b:Int}{dl:List Int}{u:Value}{level:Int}(h:qP o i s Dr w)(iq:cH w u dl)(hI:o.Inv s)(hb:0≤b)(ez:b<c.f 2)(hl:(dl.length:Int)=c.f 3)(ht:cg c k b level=false):
 Calls Tryz.prog 46 #[aO i.cb,.agg #[ah b,u],ah level] w fun e w'=>e= .returned (.agg (eJ 0 aT false 5))∧af au w w':=by
 have AU:decide (b<0)=false:=decide_eq_false aj;have JV:decide (c.f 2≤b)=false:=decide_eq_false aj;have VX:((dl.length:Int) != c.f 3)=false:=by rw[bne_eq_false_iff_eq];exact hl
 have HT:=ae fun(W:World) (hC:qP o i s Dr W)=>by have:=tF b level hC hI;rw[ht]at this;exact this
 obtain⟨A,cp,rfl,hle,hmax,iD⟩:=iq;have DF:=ae iD;have KK:=ae hmax;obtain⟨lv,dv,h⟩:=h;have HW:=ae fun(g:Nat) (hg:w.heap.size≤g)=>h.Bj hg
 have HB:=ae<|Box.fresh w 87 #[ah b,.slice A dl.length cp];have HO:=ae<|(af.ai au w).alloc (.cells #[ah b,.slice A dl.length cp] 87);have H:=ae<|h.keep HO;have Ka:=ae h.right.p3;clear iD hmax hle h hb ez hl hI ht
 go_enter Tryz.func46,Tryz.ntmps46
 go_upto_region 1 with fail;change Code.wp _ _ _ _ ((w.alloc (.cells #[ah b,.slice A dl.length cp] 87)).alloc (.cells (eJ 0 aT false 0) 89));have hsz:(w.alloc (.cells #[ah b,.slice A dl.length cp] 87)).heap.size=w.heap.size+1:=World.size_alloc ..;generalize w.alloc (.cells #[ah b,.slice A dl.length cp] 87)=W0 at *;obtain⟨fb,iQ⟩:∃fb,fb=w.heap.size:=⟨_,rfl⟩;have rB:=aq (w.heap.size≤fb) (Nat.le_of_eq iQ.symm);rw[←iQ]at HB hsz ⊢;clear iQ;have aK:af au W0 (W0.alloc (.cells (eJ 0 aT false 0) 89)):=(af.ai au W0).alloc _;have cy:=ae<|Box.fresh W0 89 (eJ 0 aT false 0);have kr:=ae<|aK.ak HB id;have bc:=ae<|HO.trans aK;have H1:=ae<|H.keep aK;clear aK HB HO H;generalize W0.alloc (.cells (eJ 0 aT false 0) 89)=W1 at *;rw[hsz]at cy;clear hsz;have dt:=ae (show w.heap.size≤fb+1 by have:=rB.out;omega);generalize fb+1=rb at *;have k1:aF W1.drew fb 0 b:=kr.ag rfl;have k3:aF W1.drew i.cb 2 (c.f 2):=kB H1.ak aE;refine pG (fun w':World=>aF w' fb 0 b∧aF w' i.cb 2 (c.f 2)) 12 fun aC=>?_
 refine bE [0,1,2,3,4,5,6,7,8,9,10,11] ?_;refine dE ?_;clear aC k1 k3;go_upto_region 3 with fail;have fX:=aq (Box W1.drew rb 89 (eJ 0 aT false 0)) (cy);have lE:=aq (Box W1.drew fb 87 _) (kr);have bu:=ae bc.drew;have H2:=ae<|H1.keep ((af.ai au W1).drew);clear cy kr bc H1;generalize W1.drew=W2 at *;have k1:aM W2.drew fb 1 (.slice A dl.length cp):=lE.ag rfl;have k3:aF W2.drew i.cb 3 (c.f 3):=kB H2.ak aE;refine pG (fun w':World=>aM w' fb 1 (.slice A dl.length cp)∧aF w' i.cb 3 (c.f 3)) 8 fun aC=>?_
 refine bE [0,1,2,3,4,5,6,7] ?_;refine dE ?_;clear aC k1 k3;go_upto_region 5 with fail;have ej:=aq (Box W2.drew rb 89 (eJ 0 aT false 0)) (fX);have vj:=aq (Box W2.drew fb 87 _) (lE);have bI:=ae bu.drew;have H3:=ae<|H2.keep ((af.ai au W2).drew);clear fX lE bu H2;generalize W2.drew=W3 at *;have y0:aF W3 fb 0 b:=vj.ag rfl;go_upto_region 6 with(go_at_call 76;refine(HT W3 ⟨_,_,H3⟩).mono ?_;rintro e W4 ⟨rfl,ey⟩);have jh:=ae<|ey.ak ej id;have cr:=ae<|bI.trans ey;go_wp2_with (refine iP (eJ 0 aT false 5) jh (kU _ _ _ _ _ _) ?_);refine bodyPost_ret (results_cell_row rfl _ _ rb _ (eJ 0 aT false 5) (0,0) _ rfl (jh.aw _) Tryz.underlying89 rfl aS) rfl ?_;exact⟨rfl,cr.aw (.inr dt) _⟩
theorem Qz {n:Nat}{dl:List Int}{u:Value}{level:Int}(h:qP o i s Dr w)(hI:o.Inv s)(h2:(n:Int)<c.f 2)(hl:(dl.length:Int)=c.f 3)(ht:cg c k n level=true)(V4:K.sp.takes n)(cV:K.sp.jf s<da)(iq:cH w u dl)
 (hu:∀j,aJ u j→¬td o i j) (hg:(K.sp.add s n).2.2=false):
 Calls Tryz.prog 46 #[aO i.cb,.agg #[ah n,u],ah level] w (Fy o i s Dr n dl w):=by
 have AU:decide ((n:Int)<0)=false:=decide_eq_false aj;have JV:decide (c.f 2≤(n:Int))=false:=decide_eq_false aj;have VX:((dl.length:Int) != c.f 3)=false:=by rw[bne_eq_false_iff_eq];exact hl
 have HN:=ae (show n<32 by obtain⟨lv,dv,h⟩:=h;have:=h.right.p2;omega);have HL:=ae hl;have HUS:=ae hu;have HT:=ae fun(W:World) (hC:qP o i s Dr W)=>by have:=tF (n:Int) level hC hI;rw[ht]at this;exact this
 have HU:=ae fun(W:World) (lv:Value) (dv:Nat→Value) (hC:fZ o i s lv dv Dr W)=>o.add hC.ord hI hC.ak hC.J3.2 (Int.natCast_nonneg n) (show(n:Int)<64 by have:=HN.out;omega) V4 cV
 have HG:=ae hg;obtain⟨A,cp,rfl,hle,hmax,iD⟩:=iq;have DF:=ae iD;have KK:=ae hmax;obtain⟨lv,dv,h⟩:=h;have HW:=ae fun(g:Nat) (hg:w.heap.size≤g)=>h.Bj hg
 have HB:=ae<|Box.fresh w 87 #[ah n,.slice A dl.length cp];have HO:=ae<|(af.ai au w).alloc (.cells #[ah n,.slice A dl.length cp] 87);have H:=ae<|h.keep HO;have Ka:=ae h.right.p3;clear iD hmax hle h hl hI h2 ht V4 cV hg hu
 go_enter Tryz.func46,Tryz.ntmps46
 go_upto_region 1 with fail;change Code.wp _ _ _ _ ((w.alloc (.cells #[ah n,.slice A dl.length cp] 87)).alloc (.cells (eJ 0 aT false 0) 89));have hsz:(w.alloc (.cells #[ah n,.slice A dl.length cp] 87)).heap.size=w.heap.size+1:=World.size_alloc ..;generalize w.alloc (.cells #[ah n,.slice A dl.length cp] 87)=W0 at *;obtain⟨fb,iQ⟩:∃fb,fb=w.heap.size:=⟨_,rfl⟩;have rB:=aq (w.heap.size≤fb) (Nat.le_of_eq iQ.symm);rw[←iQ]at HB hsz ⊢;clear iQ;have aK:af au W0 (W0.alloc (.cells (eJ 0 aT false 0) 89)):=(af.ai au W0).alloc _;have cy:=ae<|Box.fresh W0 89 (eJ 0 aT false 0);have kr:=ae<|aK.ak HB id;have bc:=ae<|HO.trans aK;have H1:=ae<|H.keep aK;clear aK HB HO H;generalize W0.alloc (.cells (eJ 0 aT false 0) 89)=W1 at *;rw[hsz]at cy;clear hsz;have dt:=ae (show w.heap.size≤fb+1 by have:=rB.out;omega);generalize fb+1=rb at *;have k1:aF W1.drew fb 0 n:=kr.ag rfl;have k3:aF W1.drew i.cb 2 (c.f 2):=kB H1.ak aE;refine pG (fun w':World=>aF w' fb 0 n∧aF w' i.cb 2 (c.f 2)) 12 fun aC=>?_
 refine bE [0,1,2,3,4,5,6,7,8,9,10,11] ?_;refine dE ?_;clear aC k1 k3;go_upto_region 3 with fail;have fX:=aq (Box W1.drew rb 89 (eJ 0 aT false 0)) (cy);have lE:=aq (Box W1.drew fb 87 _) (kr);have bu:=ae bc.drew;have H2:=ae<|H1.keep ((af.ai au W1).drew);clear cy kr bc H1;generalize W1.drew=W2 at *;have k1:aM W2.drew fb 1 (.slice A dl.length cp):=lE.ag rfl;have k3:aF W2.drew i.cb 3 (c.f 3):=kB H2.ak aE;refine pG (fun w':World=>aM w' fb 1 (.slice A dl.length cp)∧aF w' i.cb 3 (c.f 3)) 8 fun aC=>?_
 refine bE [0,1,2,3,4,5,6,7] ?_;refine dE ?_;clear aC k1 k3;go_upto_region 5 with fail;have ej:=aq (Box W2.drew rb 89 (eJ 0 aT false 0)) (fX);have vj:=aq (Box W2.drew fb 87 _) (lE);have bI:=ae bu.drew;have H3:=ae<|H2.keep ((af.ai au W2).drew);clear fX lE bu H2;generalize W2.drew=W3 at *;have y0:aF W3 fb 0 n:=vj.ag rfl;go_upto_region 7 with(go_at_call 76;refine(HT W3 ⟨_,_,H3⟩).mono ?_;rintro e W4 ⟨rfl,ey⟩);have jh:=ae<|ey.ak ej id;have JN:=ae<|ey.ak vj id;have cr:=ae<|bI.trans ey;have H4:=ae<|H3.keep ey;clear ey y0 ej vj bI H3 AU JV VX;have y0:aF W4 fb 0 n:=JN.ag rfl;generalize j8:decide ((n:Int)∈K.sp.all s)=was at *;have qW:=ae j8;clear j8;rw[HG.out]at HU;generalize uB:(K.sp.add s n).2.1=vv at *;have JD:=ae uB;clear uB;generalize UJ:(K.sp.add s n).1=s2 at *;have Tb:=ae UJ;clear UJ;go_upto_region 8 with(first|(go_at_call 77;refine(HU W4 _ _ H4).mono ?_;rintro e W5 ⟨A5,n5,m5,lv5,rfl,h1,h2,h3⟩;have H5:=ae<|H4.tg h1 h2 h3;have fY:=ae<|h3.ak jh fun e=>HW rb dt (Gl.Nu e);have xa:=ae<|h3.ak JN fun e=>HW fb rB (Gl.Nu e);have ek:=ae<|(cr.mono (S':=td o i) fun _ h=>h.elim).trans (h3.mono fun j hj=>.inl (Gl.Nu hj));clear h1 h2 h3)|(refine iP (cR (.slice A5 n5 m5) vv false was 0) (Box.fresh W5 136 (cR aT 0 false false 0)) (ij _ _ _ _ _ _ _) ?_));have fI:af au W5 ((W5.alloc (.cells (cR aT 0 false false 0) 136)).setRow W5.heap.size (cR (.slice A5 n5 m5) vv false was 0)):=((af.ai au W5).alloc _).aw (.inr (dX _)) _;have uw:=ae<|(Box.fresh W5 136 (cR aT 0 false false 0)).aw (cR (.slice A5 n5 m5) vv false was 0);have kK:=ae<|fI.ak fY id;have SA:=ae<|fI.ak xa id;have iu:=ae<|ek.cE fI;have H6:=ae<|H5.keep fI;have eB:=aq (w.heap.size≤W5.heap.size) (ek.size);clear fI fY xa ek H5 jh JN cr H4 y0 HU;change Code.wp _ _ _ _ ((W5.alloc (.cells (cR aT 0 false false 0) 136)).setRow W5.heap.size (cR (.slice A5 n5 m5) vv false was 0));generalize(W5.alloc (.cells (cR aT 0 false false 0) 136)).setRow W5.heap.size (cR (.slice A5 n5 m5) vv false was 0)=W6 at *;generalize W5.heap.size=eb at *;have y2:aM W6 eb 2 (.bool false):=uw.ag rfl;go_upto_region 9 with(refine iP (eJ 0 aT false 0) (Box.fresh W6 89 (eJ 0 aT false 0)) (kU _ _ _ _ _ _) ?_);have l4:af au W6 ((W6.alloc (.cells (eJ 0 aT false 0) 89)).setRow W6.heap.size (eJ 0 aT false 0)):=((af.ai au W6).alloc _).aw (.inr (dX _)) _;have Ff:=ae<|(Box.fresh W6 89 (eJ 0 aT false 0)).aw (eJ 0 aT false 0);have w8:=ae<|l4.ak kK id;have Vy:=ae<|l4.ak SA id;have vk:=ae<|l4.ak uw id;have pz:=ae<|iu.cE l4;have H7:=ae<|H6.keep l4;have Gn:=aq (w.heap.size≤W6.heap.size) (iu.size);have HRT:=aq (rb≠W6.heap.size) (Nat.ne_of_lt kK.lt);clear l4 kK SA iu H6 uw y2;change Code.wp _ _ _ _ ((W6.alloc (.cells (eJ 0 aT false 0) 89)).setRow W6.heap.size (eJ 0 aT false 0));generalize(W6.alloc (.cells (eJ 0 aT false 0) 89)).setRow W6.heap.size (eJ 0 aT false 0)=W7 at *
 generalize W6.heap.size=tb at *;have y2:aM W7 eb 2 (.bool false):=vk.ag rfl;go_upto_region 11 with fail;clear y2;generalize W7=W8 at *;have JI:=w8;have Bc:=Vy;have Na:=Ff;have rA:=pz;have H8:=H7;clear w8 Vy Ff pz H7;have QZ:=ae<|DF.ar rA fun g' o' e' _ hw=>HUS g' (by rw[e'];exact aD.2 rfl) hw;have y1:aM W8 fb 1 (.slice A dl.length cp):=Bc.ag rfl;have b8:=ae (show([]:List Value).length+(bytes dl).length≤maxLen by rw[qD];have:=HL.out;have:=Ka.out;unfold maxLen;simp;omega);have dG:=ae (show(([]:List Value).length+(bytes dl).length)*1≤140737488355328 by rw[qD];have:=HL.out;have:=Ka.out;simp;omega);go_upto_region 13 with(at_builtin;refine bA _ rfl (.tmp 63) (.tmp 65) 35 5 rfl fC rfl Tryz.underlying35 aT [] rfl (Row.lJ _ _) A dl.length cp (bytes dl) rfl (by rw[qD]) QZ (qK dl) b8 dG ?_;intro v' W9 AW qu Wh _;have J8:=ae AW;have l5:=ae<|qu.mono (S':=au) fun j hj=>(bo hj).elim;have HK9:=ae Wh;clear AW qu Wh);rw[List.nil_append]at J8;have km:kA W9 v' dl:=⟨J8,by have:=HL.out;have:=Ka.out;omega⟩;obtain⟨A2,c2,e2⟩:=km.shape;subst e2;have SF:=aq (∀j,aJ (.slice A2 dl.length c2) j→o.B≤j) (fun j hj=>by
  rcases HK9 j hj with h|h
  ·exact(bo h).elim
  ·have:=H8.bs;omega)
 have Td:=ae km;have H9:=ae<|H8.keep l5;have Xy:=ae<|l5.ak Bc id;have Fh:=ae<|l5.ak JI id;have Vh:=ae<|l5.ak Na id;have Xb:=ae<|rA.cE l5;clear km y1 Bc H8 JI Na rA QZ b8 dG;have k1:aF W9.drew fb 0 n:=Xy.ag rfl;have k3:aM W9.drew i.cb 21 (bp i.db 32 i.dc):=H9.Vb;refine pG (fun w':World=>aF w' fb 0 n∧aM w' i.cb 21 (bp i.db 32 i.dc)) 7 fun aC=>?_
 refine bE [0,1,2,3,4,5,6] ?_;refine dE ?_;have x2:aM W9.drew i.db n (dv n):=(H9.cd HN).1;have x3:W9.drew.frozen? ⟨i.db,n,none⟩=false:=(H9.cd HN).2;have yR:(0:Int)≤(n:Int):=Int.natCast_nonneg n;have qM:(n:Int)<32:=by have:=HN.out;omega
 clear aC k1 k3;go_upto_region 14 with fail;have si:af (td o i) W9 (W9.drew.setCell ⟨i.db,n,none⟩ (.slice A2 dl.length c2)):=((af.ai (td o i) W9).drew).trans af.db;have Om:af (az i.db) W9 (W9.drew.setCell ⟨i.db,n,none⟩ (.slice A2 dl.length c2)):=((af.ai (az i.db) W9).drew).setCell (p:=⟨i.db,n,none⟩) (.inl (show az i.db i.db from rfl)) _;have H10:=ae<|fZ.XJ (w:=W9.drew) (H9.keep ((af.ai au W9).drew)) HN (Td.keep ((af.ai au W9).drew)) SF;have Ta:=ae<|si.ak Vh (HW tb Gn);have Bu:=ae<|si.ak Fh (HW rb dt);have Bx:=ae<|Xb.trans si;change Code.wp _ _ _ _ (W9.drew.setCell ⟨i.db,n,none⟩ (.slice A2 dl.length c2));clear si Om x2 x3 yR qM Vh Fh Xb H9 Xy;generalize W9.drew.setCell ⟨i.db,n,none⟩ (.slice A2 dl.length c2)=sf at *;go_wp2_with (first|(refine iy (eJ 0 aT false 0) Ta Tryz.underlying89 ?_)|(refine iP (eJ 0 aT false 0) Bu (kU _ _ _ _ _ _) ?_));refine bodyPost_ret (results_cell_row rfl _ _ rb _ (eJ 0 aT false 0) (0,0) _ rfl (Bu.aw _) Tryz.underlying89 rfl aS) rfl ?_;have gM:af (az rb) sf (sf.setRow rb (eJ 0 aT false 0)):=(af.ai (az rb) sf).aw (.inl (show az rb rb from rfl)) _;unfold Fy;rw[HG.out];rw[if_neg aE,if_neg aE,Tb.out];exact⟨_,rfl,kA.nil _,fun j hj=>(bo hj).elim,⟨_,_,H10.jZ Bu aE aE (HW rb dt) gM⟩,Bx.aw (.inr dt) _⟩
theorem QA {n:Nat}{dl:List Int}{u:Value}{level:Int}(h:qP o i s Dr w)(hI:o.Inv s)(h2:(n:Int)<c.f 2)(hl:(dl.length:Int)=c.f 3)(ht:cg c k n level=true)(V4:K.sp.takes n)(cV:K.sp.jf s<da)(iq:cH w u dl)
 (hu:∀j,aJ u j→¬td o i j) (hg:(K.sp.add s n).2.2=true) {m:Nat} (hm:(K.sp.add s n).2.1=(m:Int)) (X2:m<32):
 Calls Tryz.prog 46 #[aO i.cb,.agg #[ah n,u],ah level] w (Fy o i s Dr n dl w):=by
 have AU:decide ((n:Int)<0)=false:=decide_eq_false aj;have JV:decide (c.f 2≤(n:Int))=false:=decide_eq_false aj;have VX:((dl.length:Int) != c.f 3)=false:=by rw[bne_eq_false_iff_eq];exact hl
 have HN:=ae (show n<32 by obtain⟨lv,dv,h⟩:=h;have:=h.right.p2;omega);have HL:=ae hl;have HUS:=ae hu;have HT:=ae fun(W:World) (hC:qP o i s Dr W)=>by have:=tF (n:Int) level hC hI;rw[ht]at this;exact this
 have HU:=ae fun(W:World) (lv:Value) (dv:Nat→Value) (hC:fZ o i s lv dv Dr W)=>o.add hC.ord hI hC.ak hC.J3.2 (Int.natCast_nonneg n) (show(n:Int)<64 by have:=HN.out;omega) V4 cV
 have HG:=ae hg;have HM:=ae hm;have Tl:=ae X2;obtain⟨A,cp,rfl,hle,hmax,iD⟩:=iq;have DF:=ae iD;have KK:=ae hmax;obtain⟨lv,dv,h⟩:=h;have HW:=ae fun(g:Nat) (hg:w.heap.size≤g)=>h.Bj hg
 have HB:=ae<|Box.fresh w 87 #[ah n,.slice A dl.length cp];have HO:=ae<|(af.ai au w).alloc (.cells #[ah n,.slice A dl.length cp] 87);have H:=ae<|h.keep HO;have Ka:=ae h.right.p3;clear iD hmax hle h hl hI h2 ht V4 cV hg hu hm X2
 go_enter Tryz.func46,Tryz.ntmps46
 go_upto_region 1 with fail;change Code.wp _ _ _ _ ((w.alloc (.cells #[ah n,.slice A dl.length cp] 87)).alloc (.cells (eJ 0 aT false 0) 89));have hsz:(w.alloc (.cells #[ah n,.slice A dl.length cp] 87)).heap.size=w.heap.size+1:=World.size_alloc ..;generalize w.alloc (.cells #[ah n,.slice A dl.length cp] 87)=W0 at *;obtain⟨fb,iQ⟩:∃fb,fb=w.heap.size:=⟨_,rfl⟩;have rB:=aq (w.heap.size≤fb) (Nat.le_of_eq iQ.symm);rw[←iQ]at HB hsz ⊢;clear iQ;have aK:af au W0 (W0.alloc (.cells (eJ 0 aT false 0) 89)):=(af.ai au W0).alloc _;have cy:=ae<|Box.fresh W0 89 (eJ 0 aT false 0);have kr:=ae<|aK.ak HB id;have bc:=ae<|HO.trans aK;have H1:=ae<|H.keep aK;clear aK HB HO H;generalize W0.alloc (.cells (eJ 0 aT false 0) 89)=W1 at *;rw[hsz]at cy;clear hsz;have dt:=ae (show w.heap.size≤fb+1 by have:=rB.out;omega);generalize fb+1=rb at *;have k1:aF W1.drew fb 0 n:=kr.ag rfl;have k3:aF W1.drew i.cb 2 (c.f 2):=kB H1.ak aE;refine pG (fun w':World=>aF w' fb 0 n∧aF w' i.cb 2 (c.f 2)) 12 fun aC=>?_
 refine bE [0,1,2,3,4,5,6,7,8,9,10,11] ?_;refine dE ?_;clear aC k1 k3;go_upto_region 3 with fail;have fX:=aq (Box W1.drew rb 89 (eJ 0 aT false 0)) (cy);have lE:=aq (Box W1.drew fb 87 _) (kr);have bu:=ae bc.drew;have H2:=ae<|H1.keep ((af.ai au W1).drew);clear cy kr bc H1;generalize W1.drew=W2 at *;have k1:aM W2.drew fb 1 (.slice A dl.length cp):=lE.ag rfl;have k3:aF W2.drew i.cb 3 (c.f 3):=kB H2.ak aE;refine pG (fun w':World=>aM w' fb 1 (.slice A dl.length cp)∧aF w' i.cb 3 (c.f 3)) 8 fun aC=>?_
 refine bE [0,1,2,3,4,5,6,7] ?_;refine dE ?_;clear aC k1 k3;go_upto_region 5 with fail;have ej:=aq (Box W2.drew rb 89 (eJ 0 aT false 0)) (fX);have vj:=aq (Box W2.drew fb 87 _) (lE);have bI:=ae bu.drew;have H3:=ae<|H2.keep ((af.ai au W2).drew);clear fX lE bu H2;generalize W2.drew=W3 at *;have y0:aF W3 fb 0 n:=vj.ag rfl;go_upto_region 7 with(go_at_call 76;refine(HT W3 ⟨_,_,H3⟩).mono ?_;rintro e W4 ⟨rfl,ey⟩);have jh:=ae<|ey.ak ej id;have JN:=ae<|ey.ak vj id;have cr:=ae<|bI.trans ey;have H4:=ae<|H3.keep ey;clear ey y0 ej vj bI H3 AU JV VX;have y0:aF W4 fb 0 n:=JN.ag rfl;generalize j8:decide ((n:Int)∈K.sp.all s)=was at *;have qW:=ae j8;clear j8;rw[HG.out]at HU;rw[HM.out]at HU;generalize UJ:(K.sp.add s n).1=s2 at *;have Tb:=ae UJ;clear UJ;go_upto_region 8 with(first|(go_at_call 77;refine(HU W4 _ _ H4).mono ?_;rintro e W5 ⟨A5,n5,m5,lv5,rfl,h1,h2,h3⟩;have H5:=ae<|H4.tg h1 h2 h3;have fY:=ae<|h3.ak jh fun e=>HW rb dt (Gl.Nu e);have xa:=ae<|h3.ak JN fun e=>HW fb rB (Gl.Nu e);have ek:=ae<|(cr.mono (S':=td o i) fun _ h=>h.elim).trans (h3.mono fun j hj=>.inl (Gl.Nu hj));clear h1 h2 h3)|(refine iP (cR (.slice A5 n5 m5) m true was 0) (Box.fresh W5 136 (cR aT 0 false false 0)) (ij _ _ _ _ _ _ _) ?_));have fI:af au W5 ((W5.alloc (.cells (cR aT 0 false false 0) 136)).setRow W5.heap.size (cR (.slice A5 n5 m5) m true was 0)):=((af.ai au W5).alloc _).aw (.inr (dX _)) _;have uw:=ae<|(Box.fresh W5 136 (cR aT 0 false false 0)).aw (cR (.slice A5 n5 m5) m true was 0);have kK:=ae<|fI.ak fY id;have SA:=ae<|fI.ak xa id;have iu:=ae<|ek.cE fI;have H6:=ae<|H5.keep fI;have eB:=aq (w.heap.size≤W5.heap.size) (ek.size);clear fI fY xa ek H5 jh JN cr H4 y0 HU;change Code.wp _ _ _ _ ((W5.alloc (.cells (cR aT 0 false false 0) 136)).setRow W5.heap.size (cR (.slice A5 n5 m5) m true was 0));generalize(W5.alloc (.cells (cR aT 0 false false 0) 136)).setRow W5.heap.size (cR (.slice A5 n5 m5) m true was 0)=W6 at *;generalize W5.heap.size=eb at *;have y2:aM W6 eb 2 (.bool true):=uw.ag rfl;go_upto_region 9 with(refine iP (eJ 0 aT true 0) (Box.fresh W6 89 (eJ 0 aT false 0)) (kU _ _ _ _ _ _) ?_);have l4:af au W6 ((W6.alloc (.cells (eJ 0 aT false 0) 89)).setRow W6.heap.size (eJ 0 aT true 0)):=((af.ai au W6).alloc _).aw (.inr (dX _)) _;have Ff:=ae<|(Box.fresh W6 89 (eJ 0 aT false 0)).aw (eJ 0 aT true 0);have w8:=ae<|l4.ak kK id;have Vy:=ae<|l4.ak SA id;have vk:=ae<|l4.ak uw id;have pz:=ae<|iu.cE l4;have H7:=ae<|H6.keep l4;have Gn:=aq (w.heap.size≤W6.heap.size) (iu.size);have HRT:=aq (rb≠W6.heap.size) (Nat.ne_of_lt kK.lt);clear l4 kK SA iu H6 uw y2;change Code.wp _ _ _ _ ((W6.alloc (.cells (eJ 0 aT false 0) 89)).setRow W6.heap.size (eJ 0 aT true 0));generalize(W6.alloc (.cells (eJ 0 aT false 0) 89)).setRow W6.heap.size (eJ 0 aT true 0)=W7 at *
 generalize W6.heap.size=tb at *;have y2:aM W7 eb 2 (.bool true):=vk.ag rfl;go_upto_region 10 with fail;obtain⟨JA,hdB⟩:=H7.kz m Tl;obtain⟨Am,cm,edm⟩:=JA.shape;have k4:=(H7.cd Tl).1;rw[edm]at JA hdB k4;have HDM:=ae JA;have NX:=ae hdB;clear JA hdB edm;have k4:aM W7.drew i.db m (.slice Am (Dr m).length cm):=k4;have k1:aF W7.drew eb 1 m:=vk.ag rfl;have k3:aM W7.drew i.cb 21 (bp i.db 32 i.dc):=H7.Vb;have hm0:(0:Int)≤(m:Int):=Int.natCast_nonneg m;have NC:(m:Int)<32:=by have:=Tl.out;omega
 refine pG (fun w':World=>aF w' eb 1 m∧aM w' i.cb 21 (bp i.db 32 i.dc)∧aM w' i.db m (.slice Am (Dr m).length cm)) 11 fun aC=>?_
 refine bE [0,1,2,3,4,5,6,7,8,9] ?_;refine cX 10 fun K hK=>?_
 go_simp;refine hK.out _ _ aC (fun aC=>?_);clear hK;refine dU ?_;refine dE ?_;clear aC k1 k3 k4 y2 hm0 NC;have uu:=aq (W7.drew.there tb 0 2) ((show Box W7.drew tb 89 _ from Ff).there aE);go_upto_region 11 with(refine wpList_store_mid rfl 87 _ _ rfl tb 0 #[ah m,.slice Am (Dr m).length cm] rfl rfl uu aS aU ?_);have iz:af (az tb) W7 ((W7.drew.setCell ⟨tb,0,none⟩ (ah m)).setCell ⟨tb,1,none⟩ (.slice Am (Dr m).length cm)):=(((af.ai (az tb) W7).drew).setCell (p:=⟨tb,0,none⟩) (.inl (show az tb tb from rfl)) _).setCell (p:=⟨tb,1,none⟩) (.inl (show az tb tb from rfl)) _;have Na:=aq (Box _ tb 89 (eJ m (.slice Am (Dr m).length cm) true 0)) (((show Box W7.drew tb 89 _ from Ff).store 0 (ah m)).store 1 (.slice Am (Dr m).length cm));have JI:=ae<|iz.ak w8 HRT;have Bc:=ae<|iz.ak Vy (Vy.off Ff aE);have H8:=ae<|H7.jZ Ff aE aE (HW tb Gn) iz;have rA:=ae<|pz.aG iz fun j hj=>.inr (by rw[show j=tb from hj];exact Gn);have HD8:=ae (HDM.ar iz fun j hj e=>by
  obtain⟨cs,hb⟩:=HDM.1.ak hj;exact(hb.off Ff aE) e)
 change Code.wp _ _ _ _ ((W7.drew.setCell ⟨tb,0,none⟩ (ah m)).setCell ⟨tb,1,none⟩ (.slice Am (Dr m).length cm));clear iz uu Ff w8 Vy pz H7 HDM vk;generalize(W7.drew.setCell ⟨tb,0,none⟩ (ah m)).setCell ⟨tb,1,none⟩ (.slice Am (Dr m).length cm)=W8 at *;have QZ:=ae<|DF.ar rA fun g' o' e' _ hw=>HUS g' (by rw[e'];exact aD.2 rfl) hw;have y1:aM W8 fb 1 (.slice A dl.length cp):=Bc.ag rfl;have b8:=ae (show([]:List Value).length+(bytes dl).length≤maxLen by rw[qD];have:=HL.out;have:=Ka.out;unfold maxLen;simp;omega);have dG:=ae (show(([]:List Value).length+(bytes dl).length)*1≤140737488355328 by rw[qD];have:=HL.out;have:=Ka.out;simp;omega);go_upto_region 13 with(at_builtin;refine bA _ rfl (.tmp 63) (.tmp 65) 35 5 rfl fC rfl Tryz.underlying35 aT [] rfl (Row.lJ _ _) A dl.length cp (bytes dl) rfl (by rw[qD]) QZ (qK dl) b8 dG ?_;intro v' W9 AW qu Wh _;have J8:=ae AW;have l5:=ae<|qu.mono (S':=au) fun j hj=>(bo hj).elim;have HK9:=ae Wh;clear AW qu Wh);rw[List.nil_append]at J8;have km:kA W9 v' dl:=⟨J8,by have:=HL.out;have:=Ka.out;omega⟩;obtain⟨A2,c2,e2⟩:=km.shape;subst e2;have SF:=aq (∀j,aJ (.slice A2 dl.length c2) j→o.B≤j) (fun j hj=>by
  rcases HK9 j hj with h|h
  ·exact(bo h).elim
  ·have:=H8.bs;omega)
 have Td:=ae km;have H9:=ae<|H8.keep l5;have Xy:=ae<|l5.ak Bc id;have Fh:=ae<|l5.ak JI id;have Vh:=ae<|l5.ak Na id;have Xb:=ae<|rA.cE l5;have HD9:=ae<|HD8.keep l5;clear km y1 Bc H8 JI Na rA QZ b8 dG HD8;have k1:aF W9.drew fb 0 n:=Xy.ag rfl;have k3:aM W9.drew i.cb 21 (bp i.db 32 i.dc):=H9.Vb;refine pG (fun w':World=>aF w' fb 0 n∧aM w' i.cb 21 (bp i.db 32 i.dc)) 7 fun aC=>?_
 refine bE [0,1,2,3,4,5,6] ?_;refine dE ?_;have x2:aM W9.drew i.db n (dv n):=(H9.cd HN).1;have x3:W9.drew.frozen? ⟨i.db,n,none⟩=false:=(H9.cd HN).2;have yR:(0:Int)≤(n:Int):=Int.natCast_nonneg n;have qM:(n:Int)<32:=by have:=HN.out;omega
 clear aC k1 k3;go_upto_region 14 with fail;have si:af (td o i) W9 (W9.drew.setCell ⟨i.db,n,none⟩ (.slice A2 dl.length c2)):=((af.ai (td o i) W9).drew).trans af.db;have Om:af (az i.db) W9 (W9.drew.setCell ⟨i.db,n,none⟩ (.slice A2 dl.length c2)):=((af.ai (az i.db) W9).drew).setCell (p:=⟨i.db,n,none⟩) (.inl (show az i.db i.db from rfl)) _;have H10:=ae<|fZ.XJ (w:=W9.drew) (H9.keep ((af.ai au W9).drew)) HN (Td.keep ((af.ai au W9).drew)) SF;have Ta:=ae<|si.ak Vh (HW tb Gn);have Bu:=ae<|si.ak Fh (HW rb dt);have Bx:=ae<|Xb.trans si;have YJ:=ae (HD9.ar Om fun j hj e=>by
  obtain⟨cs,hb⟩:=HD9.1.ak hj;obtain⟨cs2,ez⟩:=H9.row.ak (k:=i.db) (aD.2 rfl);exact(hb.off ez aE) e)
 change Code.wp _ _ _ _ (W9.drew.setCell ⟨i.db,n,none⟩ (.slice A2 dl.length c2));clear si Om x2 x3 yR qM Vh Fh Xb H9 Xy HD9;generalize W9.drew.setCell ⟨i.db,n,none⟩ (.slice A2 dl.length c2)=sf at *;go_wp2_with (first|(refine iy (eJ (m:Int) (.slice Am (Dr m).length cm) true 0) Ta Tryz.underlying89 ?_)|(refine iP (eJ (m:Int) (.slice Am (Dr m).length cm) true 0) Bu (kU _ _ _ _ _ _) ?_));refine bodyPost_ret (results_cell_row rfl _ _ rb _ (eJ (m:Int) (.slice Am (Dr m).length cm) true 0) (0,0) _ rfl (Bu.aw _) Tryz.underlying89 rfl aS) rfl ?_;have gM:af (az rb) sf (sf.setRow rb (eJ (m:Int) (.slice Am (Dr m).length cm) true 0)):=(af.ai (az rb) sf).aw (.inl (show az rb rb from rfl)) _;unfold Fy;rw[HG.out];rw[if_pos rfl,if_pos rfl,HM.out,Tb.out];refine⟨_,rfl,?_,NX,⟨_,_,H10.jZ Bu aE aE (HW rb dt) gM⟩,Bx.aw (.inr dt) _⟩;rw[show((m:Int)).toNat=m from Int.toNat_natCast m];exact YJ.ar gM fun j hj e=>by
  obtain⟨cs,hb⟩:=YJ.1.ak hj;exact(hb.off Bu aE) e
end
theorem Qh:(Tryz.prog.info? 35).map (fun i=>(i.zero,i.size,i.bytes))=some (some aT,1,24):=by kernel_rfl
theorem MN (c:aQ)(A:Option Addr)(n cp:Nat)(aP:Int):Tryz.prog.built 96 [(0,.agg (ao c (.slice A n cp))),(1,ah aP)]=some (kl c (.slice A n cp) aP aT (.pointer none) (.pointer none) aT):=by kernel_rfl
def Zm (K:bj)(c:aQ)(k:Nat)(w:World)(e:Ending)(w':World):Prop:=
 ∃(o:ir K c k) (i:A9),e= .returned (aO i.cb)∧qP o i K.s0 (fun _=>[]) w'∧(∀j,td o i j→w.heap.size≤j)∧af au w w'
def TZ (c:aQ)(hv:Value)(t1:Int)(w:World)(cb:Nat)(i:Value)(wr:World):Prop:=
 ∃(k:Nat) (v:Value),k≤32∧i=ah k∧Box wr cb 96 (kl c hv t1 aT (.pointer none) (.pointer none) v)∧Row 35 wr v (List.replicate k aT)∧(∀g,aJ v g→w.heap.size≤g)∧af (az cb) w wr
theorem LY (c:aQ)(hv:Value)(t1:Int)(lv mp pp v u:Value):(kl c hv t1 lv mp pp v).setIfInBounds 21 u=kl c hv t1 lv mp pp u:=by
 simp[kl,ao]
theorem LX (c:aQ)(hv:Value)(t1:Int)(lv mp pp v u:Value):(kl c hv t1 lv mp pp v).setIfInBounds 19 u=kl c hv t1 lv u pp v:=by
 simp[kl,ao]
theorem LW (c:aQ)(hv:Value)(t1:Int)(lv mp pp v u:Value):(kl c hv t1 lv mp pp v).setIfInBounds 20 u=kl c hv t1 lv mp u v:=by
 simp[kl,ao]
section
theorem oa{P:Prop}(h:P:=by
 intro x hx;have jV:=AO.out;rcases hx with hx|hx|hx
 ·exact(hF x hx).2.2
 ·rw[show x=cb from hx];exact jV
 ·rw[show x=db from hx];omega):P:=h
theorem nA{P:Prop}(h:P:=by
 exact(JG.ar cr fun _ _=>id).ar gM fun g hg e=>by have h1:=aD.1 hg;have h2:g=cb:=e;omega):P:=h
theorem aae {c:aQ}{k:Nat}(hP:dp c)(hk:k<3){A:Option Addr}{n cp:Nat}(w:World)(bL:aX w A n cp c.h):
 Calls Tryz.prog 42 #[.agg (ao c (.slice A n cp)),ah ((k+1:Nat):Int)] w (Zm (bg c k hP hk) c k w):=by
 obtain⟨t1,Ju⟩:∃t1:Int,t1=((k+1:Nat):Int):=⟨_,rfl⟩;rw[←Ju];have Vi:=ae Ju;have hw:IntKind.i64.wrap (t1 - 1)=k:=by rw[Ju,IntKind.wrap_i64];omega
 have HWR:=ae hw;have HP:=ae hP;have HK:=ae hk;have HB:=ae<|Box.fresh w 25 (ao c (.slice A n cp));have HO:=ae<|(af.ai au w).alloc (.cells (ao c (.slice A n cp)) 25);have rC:=ae<|bL.keep HO;have hl:c.h.length≤100:=by have:=hP.hs.2.2;omega
 have HL:=ae hl;clear bL Ju hw hl
 go_enter Tryz.func42,Tryz.ntmps42
 go_upto_region 1 with fail;change Code.wp _ _ _ _ (w.alloc (.cells (ao c (.slice A n cp)) 25));generalize w.alloc (.cells (ao c (.slice A n cp)) 25)=W0 at *;obtain⟨pb,E5⟩:∃pb,pb=w.heap.size:=⟨_,rfl⟩;rw[←E5]at HB ⊢;clear E5;have lI:=ae<|LN W0 rC HL;go_upto_region 2 with(first|(refine iy (ao c (.slice A n cp)) HB Tryz.underlying25 ?_)|(go_at_call 40;refine lI.mono ?_;rintro e W1 ⟨A1,m1,rfl,h1,h2,h3⟩;have Xu:=ae h1;have JM:=ae h2;have bc:=ae<|HO.trans h3;have Xg:=ae h3.size;clear h1 h2 h3)|(refine iP (ao c (.slice A1 c.h.length m1)) (Box.fresh W1 25 (ao Nr aT)) (mI _ _ _ _) ?_));have bq:af au W1 ((W1.alloc (.cells (ao Nr aT) 25)).setRow W1.heap.size (ao c (.slice A1 c.h.length m1))):=((af.ai au W1).alloc _).aw (.inr (dX _)) _;have qQ:=ae<|(Box.fresh W1 25 (ao Nr aT)).aw (ao c (.slice A1 c.h.length m1));have HH2:=ae<|Xu.keep bq;have bu:=ae<|bc.trans bq;have cD:=aq (∀j,0<c.h.length→aJ (.slice A1 c.h.length m1) j→w.heap.size≤j) (fun j h0 hj=>Nat.le_trans HO.size (JM j hj));change Code.wp _ _ _ _ ((W1.alloc (.cells (ao Nr aT) 25)).setRow W1.heap.size (ao c (.slice A1 c.h.length m1)));clear bq Xu JM bc Xg lI HB HO rC;generalize(W1.alloc (.cells (ao Nr aT) 25)).setRow W1.heap.size (ao c (.slice A1 c.h.length m1))=W2 at *;generalize W1.heap.size=ob at *;go_upto_region 3 with(first|(refine iy (ao c (.slice A1 c.h.length m1)) qQ Tryz.underlying25 ?_)|(refine du rfl _ _ rfl [(0,.agg (ao c (.slice A1 c.h.length m1))),(1,ah t1)] _ (by simp[Act.eval]) (MN c A1 c.h.length m1 t1) ?_));change Code.wp _ _ _ _ (W2.alloc (.cells (kl c (.slice A1 c.h.length m1) t1 aT (.pointer none) (.pointer none) aT) 96));have bV:af au W2 (W2.alloc (.cells (kl c (.slice A1 c.h.length m1) t1 aT (.pointer none) (.pointer none) aT) 96)):=(af.ai au W2).alloc _;have hG:=ae<|Box.fresh W2 96 (kl c (.slice A1 c.h.length m1) t1 aT (.pointer none) (.pointer none) aT);have Gp:=ae<|bV.ak qQ id;have Vw:=ae<|HH2.keep bV;have bI:=ae<|bu.trans bV;have AO:=aq (w.heap.size≤W2.heap.size) (bu.size);have HHL:=aq (∀k o,0<c.h.length→A1=some ⟨k,o,none⟩→k<W2.heap.size) (fun k o h0 e=>HH2.blk h0 e);have l6:=aq (ob≠W2.heap.size) (Nat.ne_of_lt qQ.lt);have Kj:=aq (W2.heap.size<(W2.alloc (.cells (kl c (.slice A1 c.h.length m1) t1 aT (.pointer none) (.pointer none) aT) 96)).heap.size) (hG.lt);clear bV qQ HH2 bu;generalize W2.alloc (.cells (kl c (.slice A1 c.h.length m1) t1 aT (.pointer none) (.pointer none) aT) 96)=W3 at *;generalize W2.heap.size=cb at *;go_wp2
 go_loopw [7] (fun iv wr=>TZ c (.slice A1 c.h.length m1) t1 W3 cb iv wr) (fun iv _=>32 - (intOf iv).toNat)
 case atStart=>exact⟨0,_,fH _,rfl,hG,Row.lJ _ _,fun g hg=>(bo hg).elim,af.ai _ _⟩
 case round=>
  clear hG;obtain⟨m,v,hm,rfl,hb,hr,hf,ho⟩:=hrel;have HB:=ae hb;have l5:=ae ho;have HR:=ae hr;have HF:=ae hf;have x3:aM wr cb 21 v:=hb.ag rfl;have f3:wr.frozen? ⟨cb,21,none⟩=false:=hb.free 21;clear hb hr hf ho
  by_cases aY:m<32
  ·have jk:(m:Int)<32:=aj;have OO:=ae aY;clear aY hm;go_wp2_with (at_builtin;refine bA _ rfl (.tmp 22) (.tmp 23) 60 35 rfl Qh rfl Tryz.underlying60 v (List.replicate m aT) rfl (HR.ar ((af.ai au wr).alloc _) fun _ _=>id) (some ⟨wr.heap.size,0,none⟩) 1 1 [aT] rfl rfl (kg wr _ _) aU (by simp[maxLen];have:=OO.out;omega) (by simp;have:=OO.out;omega) ?_;intro v2 w2 kJ bq Jx _;obtain⟨A2,c2,e2,_,_⟩:=kJ.shape;rw[show(List.replicate m (Value.slice none 0 0) ++ [Value.slice none 0 0]).length=m+1 by simp]at e2;subst e2;have dG:=ae<|bq.ak (((af.ai au wr).alloc (.cells #[aT] 35)).ak HB id) (fun hk=>by obtain⟨cs,h9⟩:=HR.ak hk;exact(h9.off HB aE) rfl);have fX:=ae kJ;have bu:=ae<|(l5.alloc (.cells #[aT] 35)).aG bq fun g hg=>.inr (HF g hg);have lE:=aq (∀g,aJ (.slice A2 (m+1) c2) g→W3.heap.size≤g) (fun g hg=>(Jx g hg).elim (HF g) fun h=>by have:=l5.size;rw[World.size_alloc]at h;omega);have z3:=dG.ag (i:=21) rfl;have zf:=dG.free 21;clear kJ bq Jx)
   go_roundw
   case rel=>
    have gM:af (az cb) w2 (w2.setCell ⟨cb,21,none⟩ (.slice A2 (m+1) c2)):=(af.ai (az cb) w2).setCell (p:=⟨cb,21,none⟩) (.inl (show az cb cb from rfl)) _;refine⟨m+1,.slice A2 (m+1) c2,OO,by push_cast;rfl,?_,?_,lE,bu.setCell (p:=⟨cb,21,none⟩) (.inl (show az cb cb from rfl)) _⟩
    ·have:=dG.store 21 (.slice A2 (m+1) c2);rw[LY]at this;exact this
    ·exact js
   case measure=>simp[intOf];have:=OO.out;omega
  ·obtain rfl:m=32:=aj;obtain⟨db,dc,rfl,_,_⟩:=HR.cell (i:=0) (u:=aT) (by rw[List.getElem?_replicate,if_pos aj]);rw[List.length_replicate]at x3 HB HR HF;have JG:=ae (show Row 35 wr (bp db 32 dc) (AQ 32 fun _=>aT) by
    have h6:=HR.out;rw[show List.replicate 32 (Value.slice none 0 0)=AQ 32 (fun _=>aT) by simp[AQ,List.map_const']]at h6;exact h6)
   have NX:=aq (W3.heap.size≤db) (HF db (aD.2 rfl));have HQ:=ae<|l5.ak Gp l6;clear aY hm x3 f3 HR HF;have abH:=ae Kj;have Q5:=aq (cb<wr.heap.size∧db<wr.heap.size∧cb<db) (⟨HB.lt,JG.lt (aD.2 rfl),Nat.lt_of_lt_of_le abH NX⟩);have lh:=aq (w.heap.size≤wr.heap.size) (Nat.le_trans bI.size l5.size);have lI:=aq (af au w wr) (bI.aG l5 fun j hj=>.inr (by rw[show j=cb from hj];exact AO));have HHR:=aq (aX wr A1 c.h.length m1 c.h) (Vw.off l5 fun h0 k o e hk=>by have h1:=HHL.out k o h0 e;have h2:k=cb:=hk;omega);clear NX l5 Gp Vw bI;have x5:aF wr ob 5 (c.f 5):=HQ.ag (aL c _ aE)
   by_cases hp:c.f 5=2
   ·have me:=ae hp;have HN:=ae (show Calls Tryz.prog 69 #[.slice A1 c.h.length m1,.agg #[ah (c.f 9),ah (c.f 10),ah (c.f 11)],ah t1] wr (yL A1 m1 c.h (fm c) k wr) by
     rw[Vi.out];exact O7 (q:=fm c) wr HHR HP.hs (fun t ht=>by have:=HP.pc t ht;unfold fm;omega) HK)
    rw[hp]at x5;have c9:aF wr ob 9 (c.f 9):=HQ.ag (aL c _ aE);have c10:aF wr ob 10 (c.f 10):=HQ.ag (aL c _ aE);have c11:aF wr ob 11 (c.f 11):=HQ.ag (aL c _ aE);have M9:aM wr ob 16 (.slice A1 c.h.length m1):=HQ.ag rfl;clear hp;go_upto_region 11 with(go_at_call 69;refine HN.mono ?_;rintro e W4 ⟨j,rfl,h1,h2,h3,h4,h5,h6,h7,h8⟩;have HJ1:=ae h1;have Q2:=aq (j.A=A1∧j.t=k∧j.B=W4.heap.size∧wr.heap.size≤j.pb∧wr.heap.size≤j.ob∧∀k,aJ j.lv k→wr.heap.size≤k) (⟨h2,h3,h4,h5,h6,h7⟩);have cr:=ae h8;have sc:=ae<|h8.ak HB id;have z20:=sc.ag (i:=20) rfl;have f20:=sc.free 20;clear h1 h2 h3 h4 h5 h6 h7 h8);go_wp2;go_ret;obtain⟨j1,j2,j3,j4,j5,j6⟩:=Q2.out;have pE:=Q5.out;have hsz:=lh.out;have gM:af (az cb) W4 (W4.setCell ⟨cb,20,none⟩ (aO j.pb)):=(af.ai (az cb) W4).setCell (p:=⟨cb,20,none⟩) (.inl (show az cb cb from rfl)) _;have hF:∀x,Si j c.h.length x→x≠cb∧x≠db∧w.heap.size≤x:=fun x hx=>by
     rcases hx with rfl|hx|rfl|⟨h0,o,e⟩
     ·omega
     ·have:=j6 x hx;omega
     ·omega
     ·rw[j1]at e;have h1:=HHL.out x o h0 e;have h2:=cD.out x h0 fg;omega
    have e:bg c k HP HK=mq c k:=by unfold bg;rw[if_pos me.out]
    rw[e];have JX:=cr.size;refine⟨Q7 HK HP me j j2,⟨cb,db,dc,.slice A1 c.h.length m1⟩,rfl,⟨aT,fun _=>aT,?_,?_,?_,fun b hb=>⟨kA.nil _,fun g hg=>(bo hg).elim⟩,⟨?_,fun e=>(hF _ e).1 rfl⟩,⟨?_,fun e=>(hF _ e).2.1 rfl⟩,?_,HP⟩,?_,?_⟩
    ·exact ir.jZ (Q7 HK HP me j j2) (s:=fun _=>[]) ⟨rfl,HJ1⟩ sc aE (fun e=>(hF _ e).1 rfl) gM
    ·have:=sc.store 20 (aO j.pb);rw[LW,Vi.out]at this;exact this
    ·exact nA
    ·show cb<j.B;omega
    ·show db<j.B;omega
    ·show cb≠db;omega
    ·exact oa
    ·exact(lI.trans cr).setCell (p:=⟨cb,20,none⟩) (.inr AO) _
   ·have me:=ae hp;have c6:aF wr ob (6+k) (c.f (6+k)):=HQ.ag (aL c _ (by have:=HK.out;omega));have hw:=HWR.out;have Gj:(k:Int)<3:=by have:=HK.out;omega
    have hp5:(c.f 5==2)=false:=by simpa using hp
    generalize WA:c.f 5=f5 at *;have xa:=ae WA;clear hp WA
    by_cases hq:c.f (6+k)=2
    ·have HPK:=ae<|ic HP HK;have e9:c.f (9+k)=((dH c k).cap:Int):=by have:=HP.pc k HK.out;simp only[dH];omega
     have M8:c.f 12=((dH c k).q:Int):=by have:=HP.QD;simp only[dH];omega
     have Sg:c.f 13=((dH c k).iC:Int):=by have:=HP.UA;simp only[dH];omega
     have WQ:c.f 14=((dH c k).ghost:Int):=by have:=HP.Uz;simp only[dH];omega
     have c9:aF wr ob (9+k) (c.f (9+k)):=HQ.ag (aL c _ (by have:=HK.out;omega));have uU:aF wr ob 12 (c.f 12):=HQ.ag (aL c _ aE);have Sh:aF wr ob 13 (c.f 13):=HQ.ag (aL c _ aE);have WS:aF wr ob 14 (c.f 14):=HQ.ag (aL c _ aE);have HN:=ae (show Calls Tryz.prog 70 #[ah (c.f (9+k)),ah (c.f 12),ah (c.f 13),ah (c.f 14)] wr.drew (wE (dH c k) wr.drew) by
      rw[e9,M8,Sg,WQ];exact Pc (dH c k) (by have:=HP.QD;simp only[dH];omega) (by have:=HP.QD;simp only[dH];omega) wr.drew)
     have Xi:=ae hq;rw[hq]at c6;clear e9 M8 Sg WQ hq;generalize c.f (9+k)=f9 at *;generalize c.f 12=f12 at *;generalize c.f 13=f13 at *;generalize c.f 14=f14 at *;have k1:aF wr.drew ob (9+k) f9:=c9;have k2:aF wr.drew ob 12 f12:=uU;have k3:aF wr.drew ob 13 f13:=Sh;have k4:aF wr.drew ob 14 f14:=WS;go_upto_region 10 with fail;refine pG (fun w':World=>aF w' ob (9+k) f9∧aF w' ob 12 f12∧aF w' ob 13 f13∧aF w' ob 14 f14) 13 fun aC=>?_
     refine bE [0,1,2,3,4,5,6,7,8,9,10,11] ?_;refine cX 12 fun K hK=>?_
     go_simp;refine HN.mono ?_;rintro e W4 ⟨j,rfl,h1,h2,h3⟩;have HJ1:=ae h1;have Q2:=aq (wr.heap.size≤wr.heap.size∧∀x,RF j x→wr.heap.size≤x) (⟨dX _,h2⟩);have cr:=ae<|((af.ai au wr).drew).trans h3;have sc:=ae<|cr.ak HB id;have z19:=sc.ag (i:=19) rfl;have f19:=sc.free 19;have k1:=h3.cell aC.1 id;have k2:=h3.cell aC.2.1 id;have k3:=h3.cell aC.2.2.1 id;have k4:=h3.cell aC.2.2.2 id;clear h1 h2 h3;refine Ai hK fun aC=>?_
     clear hK;refine dE ?_;clear aC k1 k2 k3 k4 c6 c9 uU Sh WS x5 hw Gj hp5;go_wp2;go_ret;obtain⟨j4,j5⟩:=Q2.out;have pE:=Q5.out;have hsz:=lh.out;have gM:af (az cb) W4 (W4.setCell ⟨cb,19,none⟩ (aO j.mb)):=(af.ai (az cb) W4).setCell (p:=⟨cb,19,none⟩) (.inl (show az cb cb from rfl)) _;have hF:∀x,RF j x→x≠cb∧x≠db∧w.heap.size≤x:=fun x hx=>by
      have:=j5 x hx;omega
     have hB:cb<j.B∧db<j.B:=by
      obtain⟨gv,qv,hA⟩:=HJ1.out;have h1:=hA.lt.1;have h2:=j5 j.mb (.inl rfl);omega
     have e:bg c k HP HK=UC (dH c k) (ic HP HK):=by unfold bg;rw[if_neg (by rw[xa.out];exact me.out),if_pos Xi.out]
     rw[e];have JX:=cr.size;refine⟨XK HK HP (by rw[xa.out];exact me) j,⟨cb,db,dc,.slice A1 c.h.length m1⟩,rfl,⟨aT,fun _=>aT,?_,?_,?_,fun b hb=>⟨kA.nil _,fun g hg=>(bo hg).elim⟩,⟨hB.1,fun e=>(hF _ e).1 rfl⟩,⟨hB.2,fun e=>(hF _ e).2.1 rfl⟩,?_,HP⟩,?_,?_⟩
     ·exact ir.jZ (XK HK HP (by rw[xa.out];exact me) j) (s:=⟨fun _=>[],0,fun _=>0,fun _=>0⟩) ⟨rfl,HJ1⟩ sc aE (fun e=>(hF _ e).1 rfl) gM
     ·have:=sc.store 19 (aO j.mb);rw[LX,Vi.out]at this;exact this
     ·exact nA
     ·show cb≠db;omega
     ·exact oa
     ·exact(lI.trans cr).setCell (p:=⟨cb,19,none⟩) (.inr AO) _
    ·have Xi:=ae hq;have hq6:(c.f (6+k)==2)=false:=by simpa using hq
     clear hq;generalize hf6:c.f (6+k)=f6 at *;have SA:=ae hf6;clear hf6;go_wp2;go_ret;have pE:=Q5.out;have hsz:=lh.out;have e:bg c k HP HK=ux (c.f (9+k)).toNat:=by unfold bg;rw[if_neg (by rw[xa.out];exact me.out),if_neg (by rw[SA.out];exact Xi.out)]
     rw[e];refine⟨YX HK HP (by rw[xa.out];exact me) wr.heap.size,⟨cb,db,dc,.slice A1 c.h.length m1⟩,rfl,⟨aT,fun _=>aT,⟨aA.nil _ _ _,dX _⟩,?_,JG,fun b hb=>⟨kA.nil _,fun g hg=>(bo hg).elim⟩,⟨pE.1,id⟩,⟨pE.2.1,id⟩,?_,HP⟩,?_,lI⟩
     ·have:=HB.out;rw[Vi.out]at this;exact this
     ·show cb≠db;omega
     ·intro x hx;have jV:=AO.out;rcases hx with hx|hx|hx
      ·exact hx.elim
      ·rw[show x=cb from hx];exact jV
      ·rw[show x=db from hx];omega
end
variable {Z:ZN}{w w':World}{S:Nat→Prop}
theorem bO.cat {base:Nat}{v:Value}{X Y:List (PM×Value)}{L L':List PM}(h:w.ownsRow base 37 11 v (X.length+Y.length) ((X.flatMap fun p=>(bd p.1.m p.2).toList) ++ Y.flatMap fun p=>(bd p.1.m p.2).toList))
 (h1:X.map Prod.fst=L) (h2:Y.map Prod.fst=L') (d1:∀q∈X,qR Z w q.2 q.1.d) (d2:∀q∈Y,qR Z w q.2 q.1.d):bO Z w base v (L ++ L'):=by
 refine⟨X ++ Y,by rw[List.map_append,h1,h2],?_,fun q hq=>(List.mem_append.1 hq).elim (d1 q) (d2 q)⟩;rw[List.length_append,List.flatMap_append];exact h
theorem aeS {X:List (PM×Value)}(h:∀q∈X,qR Z w q.2 q.1.d):∀y∈X.flatMap (fun p=>(bd p.1.m p.2).toList),y.oneCell'=true:=fun y hy=>by
 obtain⟨p,hp,hy⟩:=List.mem_flatMap.1 hy;obtain⟨A,q,e⟩:=(h p hp).shape;rw[e]at hy;simp[bd]at hy;rcases hy with rfl|rfl|rfl|rfl|rfl|rfl|rfl|rfl|rfl|rfl|rfl<;>rfl
def QC:PM:=⟨⟨fun _=>0,false⟩,[]⟩
theorem bO.one {Z:ZN}{w w':World}{base:Nat}{v:Value}(p:PM){cs:Array Value}(hcs:bd p.m v=cs)(hd:qR Z w' v p.d)(hw:w'=w.alloc (.cells cs 37))(hb:base≤w.heap.size):bO Z w' base (bp w.heap.size 1 1) [p]:=by
 subst hw hcs;refine⟨[(p,v)],rfl,⟨rfl,.inr ⟨w.heap.size,1,_,rfl,hb,Box.fresh w 37 _,dX _,by unfold maxLen;decide,rfl,?_⟩⟩,fun q hq=>?_⟩
 ·simp[bd]
 ·rw[List.mem_singleton.1 hq];exact hd
section
variable {Z:ZN}{w:World}
theorem bO.wr {base:Nat}{v:Value}{L:List PM}(h:bO Z w base v L)(hb:Z.B≤base):Wr Z (aJ v) w:=fun k _ hk=>⟨Nat.le_trans hb (h.ak hk).1,.inr fun cs h2=>by
 obtain⟨_,cs',h3⟩:=h.ak hk;exact(h3.off h2 aE) rfl⟩
theorem Qp (g n:Nat):(⟨g,0,none⟩:Addr).add n=⟨g,n,none⟩:=by
 cases n with
 |zero=>rfl
 |succ n=>simp[Addr.add]
theorem PA (p:PM×Value):((fun p:PM×Value=>(bd p.1.m p.2).toList) p).length=11:=rfl
theorem bO.at_ {base:Nat}{v:Value}{L:List PM}(h:bO Z w base v L){i:Nat}(hi:i<L.length):∃g cap A m,v=bp g L.length cap∧(∀j u,(bd (L.getD i QC).m (.slice A (L.getD i QC).d.length m))[j]? =some u→aM w g (i*11+j) u)∧qR Z w (.slice A (L.getD i QC).d.length m) (L.getD i QC).d:=by
 obtain⟨X,rfl,h1,h2⟩:=h;rw[List.length_map]at hi;obtain⟨A,cap,e,_,_⟩:=iV h1;have hx:X.getD i (QC,aT)∈X:=by
  rw[List.getD_eq_getElem?_getD,List.getElem?_eq_getElem hi];exact List.getElem_mem hi
 have hm:(X.map Prod.fst).getD i QC=(X.getD i (QC,aT)).1:=by
  rw[List.getD_eq_getElem?_getD,List.getD_eq_getElem?_getD,List.getElem?_map,List.getElem?_eq_getElem hi];rfl
 have hdd:=h2 _ hx;obtain⟨A1,m1,e1⟩:=hdd.shape;obtain⟨hlen,h3⟩:=h1;rcases h3 with⟨_,h0⟩|⟨g,cp,cur,e2,hb,hg,hn,wV,hs,ht⟩
 ·omega
 ·refine⟨g,cp,A1,m1,by rw[e2,List.length_map],fun j u hj=>?_,by rw[hm,←e1];exact hdd⟩;rw[hm,←e1]at hj;have aaS:j<11:=by
   rcases Nat.lt_or_ge j 11 with h|h
   ·exact h
   ·rw[Array.getElem?_eq_none (by show 11≤j;exact h)]at hj;cases hj
  have hcell:=World.ownsRow.cells (w:=w) (base:=base) (e:=37) (size:=11) (v:=v) (n:=X.length) (xs:=X.flatMap fun p=>(bd p.1.m p.2).toList) ⟨hlen,.inr ⟨g,cp,cur,e2,hb,hg,hn,wV,hs,ht⟩⟩ (g:=g) (by rw[e2];rfl) (i*11+j) u (by
   rw[sJ (fun p:PM×Value=>(bd p.1.m p.2).toList) 11 (QC,aT) PA X i j hi aaS,Array.getElem?_toList];exact hj)
  rwa [Qp]at hcell
end
structure Bz where
 kind:Int
 level:Int
 b:Int
 data:List Int
instance:Inhabited Bz:=⟨⟨0,0,0,[]⟩⟩
def aa5 (a:Bz)(dv:Value):Array Value:=#[ah a.kind,ah a.level,ah a.b,dv]
structure qE (base:Nat)(w:World)(A:Option Addr)(n c:Nat)(L:List Bz):Prop where
 len:n=L.length
 cap:n≤c
 max:c≤maxLen
 at_:∀i,i<L.length→∃g o dv,A=some ⟨g,o,none⟩∧g<base∧(∀j u,(aa5 (L.getD i default) dv)[j]? =some u→aM w g (o+i*4+j) u)∧cH w dv (L.getD i default).data∧(∀k,0<(L.getD i default).data.length→aJ dv k→k<base)
theorem qE.ar {S:Nat→Prop}{base:Nat}{w w':World}{A:Option Addr}{n c:Nat}{L:List Bz}(h:qE base w A n c L)(ho:af S w w')(hS:∀k,k<base→¬S k):qE base w' A n c L:=
 ⟨h.len,h.cap,h.max,fun i hi=>by
  obtain⟨g,o,dv,rfl,hg,hc,hb,hk⟩:=h.at_ i hi;exact⟨g,o,dv,rfl,hg,fun j u hj=>ho.cell (hc j u hj) (hS g hg),hb.keep ho fun h0 k AX _=>hS k (hk k h0 AX),hk⟩⟩
theorem qE.keep {base:Nat}{w w':World}{A:Option Addr}{n c:Nat}{L:List Bz}(h:qE base w A n c L)(ho:af au w w'):qE base w' A n c L:=h.ar ho fun _ _=>id
section
theorem EN {c:aQ}(hP:¬dp c)(aP:Int){A:Option Addr}{n cp:Nat}(w:World)(bL:aX w A n cp c.h):
 Calls Tryz.prog 29 #[.agg (ao c (.slice A n cp)),ah aP] w fun e w'=>e= .returned (.tuple #[.pointer none,ah 6])∧af au w w':=by
 have HI:=ae bL;have HB:=ae<|Box.fresh w 25 (ao c (.slice A n cp));have HO:=ae<|(af.ai au w).alloc (.cells (ao c (.slice A n cp)) 25);have hr:=tE A n cp c _ (HI.keep HO);rw[eG hP]at hr;have HR:=ae hr;clear hr bL hP
 go_enter Tryz.func29,Tryz.ntmps29
 go_upto_region 1 with fail;change Code.wp _ _ _ _ (w.alloc (.cells (ao c (.slice A n cp)) 25));generalize w.alloc (.cells (ao c (.slice A n cp)) 25)=W at *;generalize w.heap.size=bb at *;go_wp2_with (first|(refine iy (ao c (.slice A n cp)) HB Tryz.underlying25 ?_)|(go_at_call 51;refine HR.mono ?_;rintro e W2 ⟨rfl,bq⟩));go_ret2;exact⟨rfl,HO.trans bq⟩
end
def T8 (L:List vr)(W:World)(i:Value)(wr:World):Prop:=∃k:Nat,k≤L.length∧i=ah k∧(∀j,j<k→(L.getD j default).d.length≤100)∧W=wr
section
theorem Uo {base:Nat}{w:World}{cf:aQ}{A:Option Addr}{m:Nat}{B:Option Addr}{n c:Nat}{L:List vr}(hL:kh base w B n c L)(hm:cf.h.length≤maxLen):
 Calls Tryz.prog 8 #[.agg (ao cf (.slice A cf.h.length m)),.slice B n c] w fun e w'=>e= .returned (.bool (Fw cf.h.length L))∧af au w w':=by
 obtain rfl:=hL.len;have hn:=Nat.le_trans hL.cap hL.max;unfold maxLen at hn hm;have HO:=ae<|(af.ai au w).alloc (.cells (ao cf (.slice A cf.h.length m)) 25);have HL:=ae<|hL.keep HO;have HB:=ae<|Box.fresh w 25 (ao cf (.slice A cf.h.length m));clear hL
 go_enter Tryz.func8,Tryz.ntmps8
 go_upto_region 1 with fail;change Code.wp _ _ _ _ (w.alloc (.cells (ao cf (.slice A cf.h.length m)) 25));generalize w.alloc (.cells (ao cf (.slice A cf.h.length m)) 25)=W at *;generalize w.heap.size=g at *;have x16:aM W g 16 (.slice A cf.h.length m):=HB.ag (kX cf _);have QQ:Fw cf.h.length L=(decide (20<cf.h.length)||decide (100<L.length)||L.any fun a=>decide (100<a.d.length)):=rfl;have rB:=ae QQ;clear QQ
 by_cases c1:20<cf.h.length
 ·have c1i:(20:Int)<cf.h.length:=aj;go_wp2;go_ret;exact⟨by rw[rB.out];simp[c1],HO⟩
 ·have c1i:¬(20:Int)<cf.h.length:=aj
  by_cases c2:100<L.length
  ·have c2i:(100:Int)<L.length:=aj;go_wp2;go_ret;exact⟨by rw[rB.out];simp[c2],HO⟩
  ·have c2i:¬(100:Int)<L.length:=aj;go_upto_region 4 with fail
   go_loopw [17] (fun i wr=>T8 L W i wr) (fun i _=>L.length - (intOf i).toNat)
   case atStart=>exact⟨0,fH _,rfl,fun j hj=>absurd hj aj,rfl⟩
   case round=>
    obtain⟨k,hk,rfl,pH,rfl⟩:=hrel;have HNO:=ae pH;clear pH
    by_cases aY:k<L.length
    ·obtain⟨g',o',dv,rfl,hg,hc,hb,_⟩:=HL.at_ k aY;have y3:=hc 11 dv rfl;obtain⟨dA,dc,rfl,_,hmx,_⟩:=id hb;have jk:(k:Int)<L.length:=aj;have cD:=ae aY;have Tk:=ae (show L.getD k default∈L by simp[aY]);clear hc hb aY hk;generalize hd:L.getD k default=a at *;have HD:=ae hd;clear hd
     by_cases c3:100<a.d.length
     ·have c3i:(100:Int)<a.d.length:=aj;go_wp2;go_ret;refine⟨?_,HO⟩;rw[rB.out];have:(L.any fun a=>decide (100<a.d.length))=true:=List.any_eq_true.2 ⟨a,Tk,by simpa using c3⟩;rw[this];simp
     ·have c3i:¬(100:Int)<a.d.length:=aj;go_wp2
      go_roundw
      case rel=>
       refine⟨k+1,cD,by go_num,fun j hj=>?_,rfl⟩
       by_cases e:j=k
       ·rw[e,HD.out];omega
       ·exact HNO j aj
      case measure=>simp[intOf];have:=cD.out;omega
    ·obtain rfl:k=L.length:=aj;clear aY hk;go_wp2;go_ret;refine⟨?_,HO⟩;rw[rB.out];have:(L.any fun a=>decide (100<a.d.length))=false:=List.any_eq_false.2 fun a ha=>by
      obtain⟨j,hj,rfl⟩:=List.getElem_of_mem ha;have:=HNO.out j hj;simp[hj]at this;simp;omega
     rw[this];simp[c1,c2]
end
end Go.Proofs.YtpcfhbeakecihaaGreat

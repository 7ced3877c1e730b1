/- Lemmas. -/
import Derived.Test.YtpcfhbeakecihaaGreatM14
import Derived.Test.YtpcfhbeakecihaaGreatM25
import Derived.Test.YtpcfhbeakecihaaGreatM31
set_option linter.all false
set_option maxHeartbeats 20000000
set_option maxRecDepth 100000
namespace Go.Proofs.YtpcfhbeakecihaaGreat
section
open Go.ChangeShapes Go.RowKit Go.Shelf Go.WideShapes
theorem iX (l:dU)(i k:Nat):dW l i k<0↔(l.getD k default).1*(l.getD i default).2<(l.getD i default).1*(l.getD k default).2:=by
 unfold dW lE
 split
 ·simp_all
 ·split<;>simp_all
theorem fV{P:Prop}(h:P:=by
 rw[show e*b*d=e*d*b by rw[Int.mul_assoc,Int.mul_comm b d,←Int.mul_assoc],show a*f*d=a*d*f by rw[Int.mul_assoc,Int.mul_comm f d,←Int.mul_assoc]];omega):P:=h
theorem pG {a b c d e f:Int}(hb:0<b)(hd:0<d)(hf:0<f)(h1:c*b<a*d)(h2:e*d<c*f):e*b<a*f:=by
 have h3:e*d*b<c*f*b:=Int.mul_lt_mul_of_pos_right h2 hb;have h4:c*b*f<a*d*f:=Int.mul_lt_mul_of_pos_right h1 hf;have h5:c*f*b=c*b*f:=by rw[Int.mul_assoc,Int.mul_comm f b,←Int.mul_assoc]
 have h6:(e*b)*d<(a*f)*d:=by
  exact fV
 exact Int.lt_of_mul_lt_mul_right h6 (Int.le_of_lt hd)
theorem nI {a b c d e f:Int}(hb:0<b)(hd:0<d)(hf:0<f)(h1:a*d≤c*b)(h2:c*f≤e*d):a*f≤e*b:=by
 have h3:c*f*b≤e*d*b:=Int.mul_le_mul_of_nonneg_right h2 (Int.le_of_lt hb);have h4:a*d*f≤c*b*f:=Int.mul_le_mul_of_nonneg_right h1 (Int.le_of_lt hf);have h5:c*f*b=c*b*f:=by rw[Int.mul_assoc,Int.mul_comm f b,←Int.mul_assoc]
 have h6:(a*f)*d≤(e*b)*d:=by
  exact fV
 exact Int.le_of_mul_le_mul_right h6 hd
theorem yv {l:dU}{m:Nat}(hm:l.length=m+1)(bG:eQ l):Sort.SWO (ltOf fun(i k:Fin (m+1))=>dW l i.val k.val) where
 irrefl:=fun x=>by
  unfold ltOf;rw[decide_eq_false];rw[iX];omega
 trans:=fun x y z h1 h2=>by
  unfold ltOf at *;rw[decide_eq_true_eq]at *;rw[iX]at *;exact pG (bG _ ai).b0 (bG y.val ai).b0 (bG _ ai).b0 h1 h2
 ntrans:=fun x y z h1 h2=>by
  unfold ltOf at *;rw[decide_eq_false_iff_not]at *;rw[iX]at *;have:=nI (bG x.val ai).b0 (bG y.val ai).b0 (bG z.val ai).b0 (Int.not_lt.1 h1) (Int.not_lt.1 h2);omega
theorem pF {l:dU}(bG:eQ l):(bg l).Perm (List.range l.length):=by
 cases h:l.length with
 |zero=>rw[dn h];exact List.Perm.nil
 |succ m=>
  rw[er h];have hp:=(Sort.insertionSort_holds (yv h bG) (Array.ofFn fun i=>i) 0 (m+1) (eK _) (by simp)).1;obtain⟨h1,_,h3⟩:=hp;generalize Sort.insertionSort (ltOf fun(i k:Fin (m+1))=>dW l i.val k.val) (Array.ofFn fun i=>i) 0 (m+1)=A at *;have e1:A.extract 0 (m+1)=A:=by
   apply Array.extract_eq_self_of_le;rw[h1];simp
  have e2:(Array.ofFn (n:=m+1) fun i=>i).extract 0 (m+1)=Array.ofFn fun i=>i:=by
   apply Array.extract_eq_self_of_le;simp
  rw[e1,e2]at h3;refine(h3.map Fin.val).trans (List.Perm.of_eq ?_);apply List.ext_getElem
  ·simp
  ·intro i h5 h6;simp only[List.getElem_map,Array.getElem_toList,Array.getElem_ofFn,List.getElem_range]
theorem nH {l:dU}(bG:eQ l):(bg l).Nodup:=(pF bG).nodup_iff.2 List.nodup_range
theorem vq {c:aN}(hP:dJ c):(∀r x,0≤gw c.h (eG c) r x)∧∀x,x<3→eN (gw c.h (eG c)) x c.h.length≤eG c x:=
 yM hP.hs (fun x hx=>by have:=hP.pc x hx;show 0≤c.f (9+x);omega) (nH (mi hP.hs))
def jW (c:aN)(k:Nat)(hP:dJ c)(hk:k<3):aZ:=
 if c.f 5=2 then iK c k else if c.f (6+k)=2 then EV (cR c k) (ko hP hk)else lB (c.f (9+k)).toNat
theorem EL {c:aN}{k:Nat}(hP:dJ c)(hk:k<3):(jW c k hP hk).Made c (k+1):=by
 unfold jW
 by_cases h1:c.f 5=2
 ·rw[if_pos h1];exact s7 hP hk h1 fun r _=>(vq hP).1 r k
 ·rw[if_neg h1]
  by_cases h2:c.f (6+k)=2
  ·rw[if_pos h2];exact yi hP hk h1 h2
  ·rw[if_neg h2];exact gS hP hk h1 h2
end
section
open Go.ChangeShapes Go.RowKit Go.WideShapes
theorem oY {O:Nat→Nat→Int}{t:Nat}{S:Nat→List Int}:∀n,(∀r,r<n→((S r).length:Int)≤O r t)→((bf S n).length:Int)≤eN O t n
 |0,_=>by simp[bf,eN]
 |n+1,h=>by
  rw[cZ,List.length_append];have h1:=oY n (fun r hr=>h r ai);have h2:=h n ai;unfold eN;omega
section
variable {c:aN}{k:Nat}{hP:dJ c}{hk:k<3}
theorem gV (P:aZ→Prop)(p1:c.f 5=2→P (iK c k))(p2:c.f 5≠2→c.f (6+k)=2→P (EV (cR c k) (ko hP hk)))(p3:c.f 5≠2→c.f (6+k)≠2→P (lB (c.f (9+k)).toNat)):P (jW c k hP hk):=by
 unfold jW
 by_cases h1:c.f 5=2
 ·rw[if_pos h1];exact p1 h1
 ·rw[if_neg h1]
  by_cases h2:c.f (6+k)=2
  ·rw[if_pos h2];exact p2 h1 h2
  ·rw[if_neg h2];exact p3 h1 h2
theorem Gr {i:(jW c k hP hk).ι}{s:(jW c k hP hk).σ}{w:World}(h:(jW c k hP hk).R i s w):(((jW c k hP hk).sp.all s).length:Int)≤c.f (9+k):=by
 have hc:=hP.pc k hk;refine gV (hP:=hP) (hk:=hk) (fun K=>∀(i:K.ι) (s:K.σ) (w:World),K.R i s w→((K.sp.all s).length:Int)≤c.f (9+k)) (fun h1 i s w h=>?_) (fun h1 h2 i s w h=>?_) (fun h1 h2 i s w h=>?_) i s w h
 ·have h2:jg (c.f 2) (eG c) c.h (gw c.h (eG c)) k i s w:=h;have h3:=oY c.h.length h2.i.most;have h4:=(vq hP).2 k hk;exact Int.le_trans h3 h4
 ·have h3:GG i.1 i.2.1 i.2.2 (cR c k) s w:=h;have h4:=h3.2.len
  show((ar (cR c k) s).length:Int)≤_
  have h5:(cR c k).cap=(c.f (9+k)).toNat:=rfl;omega
 ·have h3:AA i.1 i.2.1 i.2.2 (c.f (9+k)).toNat s w:=h;have h4:=h3.2
  show((List.length (α:=Int) s:Nat):Int)≤_
  omega
theorem EK (h0:c.f 5≠2){s:(jW c k hP hk).σ}{b:Int}(h:((jW c k hP hk).sp.add s b).2.2=true):c.f (9+k)≤(((jW c k hP hk).sp.all s).length:Int):=by
 have hc:=hP.pc k hk;refine gV (hP:=hP) (hk:=hk) (fun K=>∀(s:K.σ) (b:Int),(K.sp.add s b).2.2=true→c.f (9+k)≤((K.sp.all s).length:Int)) (fun h1=>absurd h1 h0) (fun h1 h2 s b hg=>?_) (fun h1 h2 s b hg=>?_) s b h
 ·have hg:(bT (cR c k) s b).2.2=true:=hg
  show _≤((ar (cR c k) s).length:Int)
  have h5:(cR c k).cap=(c.f (9+k)).toNat:=rfl;unfold bT at hg
  split at hg
  ·cases hg
  ·split at hg
   ·omega
   ·cases hg
 ·have hg:(bH (c.f (9+k)).toNat s b).2.2=true:=hg
  show _≤((List.length (α:=Int) s:Nat):Int)
  unfold bH at hg
  split at hg
  ·cases hg
  ·split at hg
   ·cases hg
   ·omega
theorem EM:(jW c k hP hk).sp.sk (jW c k hP hk).s0=0:=
 gV (hP:=hP) (hk:=hk) (fun K=>K.sp.sk K.s0=0) (fun _=>rfl) (fun _ _=>rfl) (fun _ _=>rfl)
def dt (c:aN)(k:Nat)(b level:Int):Bool:=decide (0≤b)&&decide (b<c.f 2)&&(if c.f 5=2 then decide (0<bz c.h (gw c.h (eG c)) b k)else(decide (c.f 5≠1)||decide (level=((k+1:Nat):Int))))
theorem sB {b level:Int}(h:dt c k b level=true):(jW c k hP hk).sp.takes b:=by
 unfold dt at h;simp only[Bool.and_eq_true]at h;unfold jW
 by_cases h1:c.f 5=2
 ·rw[if_pos h1];rw[if_pos h1]at h;have h2:0<bz c.h (gw c.h (eG c)) b k:=of_decide_eq_true h.2;exact h2
 ·rw[if_neg h1]
  by_cases h2:c.f (6+k)=2
  ·rw[if_pos h2];trivial
  ·rw[if_neg h2];trivial
end
section
theorem qB {c:aN}{k:Nat}{i:(iK c k).ι}{w:World}{cb mb:Nat}{hv:Value}{s:(iK c k).σ}{D:Int→Option gA}(b level:Int)(h:aQ (iK c k) i w cb mb c hv (k+1) s D)(hp:c.f 5=2):
 Calls Tryz.prog 98 #[aI cb,ah b,ah level] w fun e w'=>e= .returned (.bool (decide (0≤b)&&decide (b<c.f 2)&&decide (0<bz c.h (gw c.h (eG c)) b k)))∧af aA w w':=by
 have JX:aF w cb 5 (c.f 5):=h.az.ag (lZ _ _ _ _ _ _ av);rw[hp]at JX;have PT:ba w cb 18 (.iface 149 (aI (gG.p i))):=h.az.ag (lX _ _ _ _ _ _);have HT:=dR b h;have hR:jg (c.f 2) (eG c) c.h (gw c.h (eG c)) k i s w:=h.ord;have HP:=ig b w hR.b;rw[hR.t]at HP;have HP:=ae HP;generalize(decide (0≤b)&&decide (b<c.f 2))=kk at *;generalize(decide (0<bz c.h (gw c.h (eG c)) b k))=t at *;have HT:=ae HT;clear h hR hp;generalize gG.p i=p at *
 cases kk with
 |false=>
  go_enter Tryz.func98,Tryz.ntmps98
  go_wp2_with (go_at_call 121;refine HT.mono ?_;rintro e w1 ⟨rfl,rfl⟩);go_ret;exact⟨rfl,af.ak _ _⟩
 |true=>
  have Qr:∀w,(Instr.typeAssert (.iface 149 (aI p)) 102 149 true).run Tryz.prog w= .ok (.tuple #[aI p,.bool true]) w:=fun w=>by kernel_rfl
  go_enter Tryz.func98,Tryz.ntmps98
  go_wp2_with (first|(go_at_call 121;refine HT.mono ?_;rintro e w1 ⟨rfl,rfl⟩)|(go_at_call 122;refine HP.mono ?_;rintro e w1 ⟨rfl,a8⟩));go_ret;exact⟨rfl,a8.ao⟩
theorem fM{P:Prop}(h:P:=by
 refine(my b level h h1).mono fun e w' ⟨h2,h3⟩=>⟨?_,h3▸af.ak _ _⟩
 rw[h2];unfold dt;rw[if_neg h1];rfl):P:=h
theorem l6 {c:aN}{k:Nat}{hP:dJ c}{hk:k<3}{i:(jW c k hP hk).ι}{w:World}{cb mb:Nat}{hv:Value}{s:(jW c k hP hk).σ}{D:Int→Option gA}(b level:Int)(h:aQ (jW c k hP hk) i w cb mb c hv (k+1) s D):
 Calls Tryz.prog 98 #[aI cb,ah b,ah level] w fun e w'=>e= .returned (.bool (dt c k b level))∧af aA w w':=by
 refine gV (hP:=hP) (hk:=hk) (fun K=>∀(i:K.ι) (s:K.σ),aQ K i w cb mb c hv (k+1) s D→Calls Tryz.prog 98 #[aI cb,ah b,ah level] w fun e w'=>e= .returned (.bool (dt c k b level))∧af aA w w') (fun h1 i s h=>?_) (fun h1 h2 i s h=>?_) (fun h1 h2 i s h=>?_) i s h
 ·unfold dt;rw[if_pos h1];exact qB b level h h1
 ·exact fM
 ·exact fM
end
section
theorem sY {KO:aZ}{i:KO.ι}{w:World}{cb mb:Nat}{c:aN}{hv:Value}{aw:Nat}{s:KO.σ}{D:Int→Option gA}(h:aQ KO i w cb mb c hv aw s D)
 {b:Int} {dl:List Int} {dv:Value} (eE:b8 w dv dl) (tS:(decide (0≤b)&&decide (b<c.f 2))=false) (level:Int):
 Calls Tryz.prog 101 #[aI cb,.agg #[ah b,dv],ah level] w fun e w'=>e= .returned (.tuple #[.agg zF,.bool false,ah 9])∧af aA w w':=by
 obtain⟨dA,dc,rfl,Am,Al,mN⟩:=id eE;have lq:=fun W (hC:aQ KO i W cb mb c hv aw s D)=>dR b hC
 rw[tS]at lq;have lq:=ae lq;have H:=ae h;have dq:=(Box.fresh w 87 #[ah b,.slice dA dl.length dc]).alloc (.cells zF 87);have dF:=Box.fresh (w.alloc (.cells #[ah b,.slice dA dl.length dc] 87)) 87 zF;rw[World.size_alloc]at dF;have ki:=ae dq;have rr:=ae dF;have bw:=ae<|((af.ak aA w).alloc (.cells #[ah b,.slice dA dl.length dc] 87)).alloc (.cells zF 87);have H1:=ae<|H.keep bw;clear h eE mN dq dF Am Al
 go_enter Tryz.func101,Tryz.ntmps101
 go_upto_region 1 with fail;change Code.wp _ _ _ _ ((w.alloc (.cells #[ah b,.slice dA dl.length dc] 87)).alloc (.cells zF 87));generalize(w.alloc (.cells #[ah b,.slice dA dl.length dc] 87)).alloc (.cells zF 87)=W1 at *;obtain⟨fb,jd⟩:∃fb,fb=w.heap.size:=⟨_,rfl⟩;obtain⟨rb,kf⟩:∃rb,rb=w.heap.size+1:=⟨_,rfl⟩;have iw:=ae (show w.heap.size≤rb by omega);rw[←kf]at rr;rw[←jd]at ki;rw[←kf,←jd];clear jd kf;have f0:aF W1 fb 0 b:=ki.ag rfl;go_wp2_with (first|(go_at_call 121;refine(lq W1 H1).mono ?_;rintro e W ⟨rfl,rfl⟩)|(refine pT zF rr bD ?_))
 (try simp only[Exit.inBlock,Exit.then])
 refine bodyPost_ret (dm rfl _ _ rb _ zF (0,0) _ rfl (rr.aK _) Tryz.underlying87 rfl bJ) rfl ?_;exact⟨rfl,bw.aK (.inr iw) _⟩
theorem vL {KO:aZ}{i:KO.ι}{w:World}{cb mb:Nat}{c:aN}{hv:Value}{aw:Nat}{s:KO.σ}{D:Int→Option gA}(h:aQ KO i w cb mb c hv aw s D)
 {b:Int} {dl:List Int} {dv:Value} (eE:b8 w dv dl) (tS:(decide (0≤b)&&decide (b<c.f 2))=true) (hl:(dl.length:Int)≠c.f 3) (level:Int):
 Calls Tryz.prog 101 #[aI cb,.agg #[ah b,dv],ah level] w fun e w'=>e= .returned (.tuple #[.agg zF,.bool false,ah 10])∧af aA w w':=by
 obtain⟨dA,dc,rfl,Am,Al,mN⟩:=id eE;have lq:=fun W (hC:aQ KO i W cb mb c hv aw s D)=>dR b hC
 rw[tS]at lq;have lq:=ae lq;generalize hz:c.f 3=sz at *;have HZ:=ae hz;clear hz;have hne:((dl.length:Int) != sz)=true:=by simpa using hl
 clear hl;have H:=ae h;have dq:=(Box.fresh w 87 #[ah b,.slice dA dl.length dc]).alloc (.cells zF 87);have dF:=Box.fresh (w.alloc (.cells #[ah b,.slice dA dl.length dc] 87)) 87 zF;rw[World.size_alloc]at dF;have ki:=ae dq;have rr:=ae dF;have bw:=ae<|((af.ak aA w).alloc (.cells #[ah b,.slice dA dl.length dc] 87)).alloc (.cells zF 87);have H1:=ae<|H.keep bw;clear h eE mN dq dF Am Al
 go_enter Tryz.func101,Tryz.ntmps101
 go_upto_region 1 with fail;change Code.wp _ _ _ _ ((w.alloc (.cells #[ah b,.slice dA dl.length dc] 87)).alloc (.cells zF 87));generalize(w.alloc (.cells #[ah b,.slice dA dl.length dc] 87)).alloc (.cells zF 87)=W1 at *;obtain⟨fb,jd⟩:∃fb,fb=w.heap.size:=⟨_,rfl⟩;obtain⟨rb,kf⟩:∃rb,rb=w.heap.size+1:=⟨_,rfl⟩;have iw:=ae (show w.heap.size≤rb by omega);rw[←kf]at rr;rw[←jd]at ki;rw[←kf,←jd];clear jd kf;have f0:aF W1 fb 0 b:=ki.ag rfl;have f1:ba W1 fb 1 (.slice dA dl.length dc):=ki.ag rfl;have s3:aF W1 cb 3 sz:=by rw[←HZ.out];exact H1.az.ag (lZ _ _ _ _ _ _ av)
 go_upto_region 5 with(go_at_call 121;refine(lq W1 H1).mono ?_;rintro e W ⟨rfl,rfl⟩);refine kb (fun w':World=>w'=W1.drew) 9 ?_ ?_
 ·rfl
 intro aX;refine eZ [0,1,2,3,4,5,6,7,8] ?_;refine jz ?_;clear aX lq;have sq:=aH (Box W1.drew fb 87 #[ah b,.slice dA dl.length dc]) (ki);have tT:=aH (Box W1.drew rb 87 zF) (rr);have bR:=ae bw.drew;have H2:=aH (aQ KO i W1.drew cb mb c hv aw s D) (H1.keep ((af.ak aA W1).drew));clear f0 f1 s3 H1 ki rr bw;generalize W1.drew=W2 at *;go_wp2_with (refine pT zF tT bD ?_)
 (try simp only[Exit.inBlock,Exit.then])
 refine bodyPost_ret (dm rfl _ _ rb _ zF (0,0) _ rfl (tT.aK _) Tryz.underlying87 rfl bJ) rfl ?_;exact⟨rfl,bR.aK (.inr iw) _⟩
theorem sZ {KO:aZ}{i:KO.ι}{w:World}{cb mb:Nat}{c:aN}{hv:Value}{aw:Nat}{s:KO.σ}{D:Int→Option gA}(h:aQ KO i w cb mb c hv aw s D)
 {b:Int} {dl:List Int} {dv:Value} (eE:b8 w dv dl) (tS:(decide (0≤b)&&decide (b<c.f 2))=true) (hl:(dl.length:Int)=c.f 3) (level:Int)
 (HT:∀w',aQ KO i w' cb mb c hv aw s D→Calls Tryz.prog 98 #[aI cb,ah b,ah level] w' fun e dS=>e= .returned (.bool false)∧af aA w' dS):
 Calls Tryz.prog 101 #[aI cb,.agg #[ah b,dv],ah level] w fun e w'=>e= .returned (.tuple #[.agg zF,.bool false,ah 5])∧af aA w w':=by
 obtain⟨dA,dc,rfl,Am,Al,mN⟩:=id eE;have lq:=fun W (hC:aQ KO i W cb mb c hv aw s D)=>dR b hC
 rw[tS]at lq;have lq:=ae lq;generalize hz:c.f 3=sz at *;have HZ:=ae hz;clear hz;have tU:=ae HT;clear HT;have hne:((dl.length:Int) != sz)=false:=by simpa using hl
 clear hl;have H:=ae h;have dq:=(Box.fresh w 87 #[ah b,.slice dA dl.length dc]).alloc (.cells zF 87);have dF:=Box.fresh (w.alloc (.cells #[ah b,.slice dA dl.length dc] 87)) 87 zF;rw[World.size_alloc]at dF;have ki:=ae dq;have rr:=ae dF;have bw:=ae<|((af.ak aA w).alloc (.cells #[ah b,.slice dA dl.length dc] 87)).alloc (.cells zF 87);have H1:=ae<|H.keep bw;clear h eE mN dq dF Am Al
 go_enter Tryz.func101,Tryz.ntmps101
 go_upto_region 1 with fail;change Code.wp _ _ _ _ ((w.alloc (.cells #[ah b,.slice dA dl.length dc] 87)).alloc (.cells zF 87));generalize(w.alloc (.cells #[ah b,.slice dA dl.length dc] 87)).alloc (.cells zF 87)=W1 at *;obtain⟨fb,jd⟩:∃fb,fb=w.heap.size:=⟨_,rfl⟩;obtain⟨rb,kf⟩:∃rb,rb=w.heap.size+1:=⟨_,rfl⟩;have iw:=ae (show w.heap.size≤rb by omega);rw[←kf]at rr;rw[←jd]at ki;rw[←kf,←jd];clear jd kf;have f0:aF W1 fb 0 b:=ki.ag rfl;have f1:ba W1 fb 1 (.slice dA dl.length dc):=ki.ag rfl;have s3:aF W1 cb 3 sz:=by rw[←HZ.out];exact H1.az.ag (lZ _ _ _ _ _ _ av)
 go_upto_region 5 with(go_at_call 121;refine(lq W1 H1).mono ?_;rintro e W ⟨rfl,rfl⟩);refine kb (fun w':World=>w'=W1.drew) 9 ?_ ?_
 ·rfl
 intro aX;refine eZ [0,1,2,3,4,5,6,7,8] ?_;refine jz ?_;clear aX lq;go_upto_region 7 with fail;have sq:=aH (Box W1.drew fb 87 #[ah b,.slice dA dl.length dc]) (ki);have tT:=aH (Box W1.drew rb 87 zF) (rr);have bR:=ae bw.drew;have H2:=aH (aQ KO i W1.drew cb mb c hv aw s D) (H1.keep ((af.ak aA W1).drew));clear f0 f1 s3 H1 ki rr bw;generalize W1.drew=W2 at *;have f0:aF W2 fb 0 b:=sq.ag rfl;go_upto_region 8 with(go_at_call 98;refine(tU W2 H2).mono ?_;rintro e W3 ⟨rfl,bQ⟩);have Df:=ae<|bQ.az tT id;have b7:=ae<|bR.trans bQ;clear bQ;go_wp2_with (refine pT zF Df bD ?_)
 (try simp only[Exit.inBlock,Exit.then])
 refine bodyPost_ret (dm rfl _ _ rb _ zF (0,0) _ rfl (Df.aK _) Tryz.underlying87 rfl bJ) rfl ?_;exact⟨rfl,b7.aK (.inr iw) _⟩
end
structure oe where
 kind:Int
 level:Int
 b:Int
 data:List Int
instance:Inhabited oe:=⟨⟨0,0,0,[]⟩⟩
def Jn (a:oe)(dv:Value):Array Value:=#[ah a.kind,ah a.level,ah a.b,dv]
structure ie (base:Nat)(w:World)(A:Option Addr)(n c:Nat)(L:List oe):Prop where
 len:n=L.length
 cap:n≤c
 max:c≤maxLen
 at_:∀i,i<L.length→∃g o dv,A=some ⟨g,o,none⟩∧g<base∧(∀j u,(Jn (L.getD i default) dv)[j]? =some u→ba w g (o+i*4+j) u)∧b8 w dv (L.getD i default).data∧(∀k,0<(L.getD i default).data.length→aJ dv k→k<base)
theorem ie.ao {S:Nat→Prop}{base:Nat}{w w':World}{A:Option Addr}{n c:Nat}{L:List oe}(h:ie base w A n c L)(ho:af S w w')(hS:∀k,k<base→¬S k):ie base w' A n c L:=
 ⟨h.len,h.cap,h.max,fun i hi=>by
  obtain⟨g,o,dv,rfl,hg,hc,hb,hk⟩:=h.at_ i hi;exact⟨g,o,dv,rfl,hg,fun j u hj=>ho.cell (hc j u hj) (hS g hg),hb.keep ho fun h0 k tQ _=>hS k (hk k h0 tQ),hk⟩⟩
theorem ie.keep {base:Nat}{w w':World}{A:Option Addr}{n c:Nat}{L:List oe}(h:ie base w A n c L)(ho:af aA w w'):ie base w' A n c L:=h.ao ho fun _ _=>id
def zt (h:Nat)(L:List oe):Bool:=decide (20<h)||decide (120<L.length)||L.any fun a=>decide (100<a.data.length)
theorem EJ {h:Nat}{L:List oe}(e:zt h L=false):h≤20∧L.length≤120∧∀i,i<L.length→(L.getD i default).data.length≤100:=by
 unfold zt at e;exact fm
def MU (L:List oe)(W:World)(i:Value)(wr:World):Prop:=∃k:Nat,k≤L.length∧i=ah k∧(∀j,j<k→(L.getD j default).data.length≤100)∧W=wr
section
theorem BJ {c:aN}(hP:¬dJ c)(aw:Int){A:Option Addr}{n cp:Nat}(w:World)(bI:aL w A n cp c.h):
 Calls Tryz.prog 29 #[.agg (aj c (.slice A n cp)),ah aw] w fun e w'=>e= .returned (.tuple #[.pointer none,ah 6])∧af aA w w':=by
 have HI:=ae bI;have HB:=ae<|Box.fresh w 25 (aj c (.slice A n cp));have HO:=ae<|(af.ak aA w).alloc (.cells (aj c (.slice A n cp)) 25);have hr:=jM A n cp c _ (HI.keep HO);rw[bN hP]at hr;have HR:=ae hr;clear hr bI hP
 go_enter Tryz.func29,Tryz.ntmps29
 go_upto_region 1 with fail;change Code.wp _ _ _ _ (w.alloc (.cells (aj c (.slice A n cp)) 25));generalize w.alloc (.cells (aj c (.slice A n cp)) 25)=W at *;generalize w.heap.size=bb at *;go_wp2_with (first|(refine pL (aj c (.slice A n cp)) HB Tryz.underlying25 ?_)|(go_at_call 51;refine HR.mono ?_;rintro e W2 ⟨rfl,bd⟩));go_ret2;exact⟨rfl,HO.trans bd⟩
theorem ga{P:Prop}(h:P:=by
 go_enter Tryz.func29,Tryz.ntmps29
 go_upto_region 1 with fail;change Code.wp _ _ _ _ (w.alloc (.cells (aj c (.slice A n cp)) 25));generalize w.alloc (.cells (aj c (.slice A n cp)) 25)=W at *;generalize w.heap.size=bb at *;go_wp2_with (first|(refine pL (aj c (.slice A n cp)) HB Tryz.underlying25 ?_)|(go_at_call 51;refine HR.mono ?_;rintro e W2 ⟨rfl,bd⟩));go_ret2;exact⟨rfl,HO.trans bd⟩):P:=h
theorem yT {c:aN}(hP:dJ c){aw:Int}(ht:aw<1∨3<aw){A:Option Addr}{n cp:Nat}(w:World)(bI:aL w A n cp c.h):
 Calls Tryz.prog 29 #[.agg (aj c (.slice A n cp)),ah aw] w fun e w'=>e= .returned (.tuple #[.pointer none,ah 6])∧af aA w w':=by
 have HI:=ae bI;have HB:=ae<|Box.fresh w 25 (aj c (.slice A n cp));have HO:=ae<|(af.ak aA w).alloc (.cells (aj c (.slice A n cp)) 25);have hr:=jM A n cp c _ (HI.keep HO);rw[oZ hP]at hr;have HR:=ae hr;clear hr bI hP;rcases ht with ht|ht
 ·exact ga
 ·have GO:¬aw<1:=ai;exact ga
end
def Bs (L:List lG)(W:World)(i:Value)(wr:World):Prop:=∃k:Nat,k≤L.length∧i=ah k∧(∀j,j<k→(L.getD j default).d.length≤100)∧W=wr
section
theorem BF {base:Nat}{w:World}{cf:aN}{A:Option Addr}{m:Nat}{B:Option Addr}{n c:Nat}{L:List lG}(hL:dN base w B n c L)(hm:cf.h.length≤maxLen):
 Calls Tryz.prog 8 #[.agg (aj cf (.slice A cf.h.length m)),.slice B n c] w fun e w'=>e= .returned (.bool (rE cf.h.length L))∧af aA w w':=by
 obtain rfl:=hL.len;have hn:=Nat.le_trans hL.cap hL.max;unfold maxLen at hn hm;have HO:=ae<|(af.ak aA w).alloc (.cells (aj cf (.slice A cf.h.length m)) 25);have HL:=ae<|hL.keep HO;have HB:=ae<|Box.fresh w 25 (aj cf (.slice A cf.h.length m));clear hL
 go_enter Tryz.func8,Tryz.ntmps8
 go_upto_region 1 with fail;change Code.wp _ _ _ _ (w.alloc (.cells (aj cf (.slice A cf.h.length m)) 25));generalize w.alloc (.cells (aj cf (.slice A cf.h.length m)) 25)=W at *;generalize w.heap.size=g at *;have M6:ba W g 16 (.slice A cf.h.length m):=HB.ag (eu cf _);have Fj:rE cf.h.length L=(decide (20<cf.h.length)||decide (100<L.length)||L.any fun a=>decide (100<a.d.length)):=rfl;have um:=ae Fj;clear Fj
 by_cases c1:20<cf.h.length
 ·have OG:(20:Int)<cf.h.length:=ai;go_wp2;go_ret;exact⟨by rw[um.out];simp[c1],HO⟩
 ·have OG:¬(20:Int)<cf.h.length:=ai
  by_cases c2:100<L.length
  ·have OE:(100:Int)<L.length:=ai;go_wp2;go_ret;exact⟨by rw[um.out];simp[c2],HO⟩
  ·have OE:¬(100:Int)<L.length:=ai;go_upto_region 4 with fail
   go_loopw [17] (fun i wr=>Bs L W i wr) (fun i _=>L.length - (intOf i).toNat)
   case atStart=>exact⟨0,eK _,rfl,fun j hj=>absurd hj ai,rfl⟩
   case round=>
    obtain⟨k,hk,rfl,ll,rfl⟩:=hrel;have Mf:=ae ll;clear ll
    by_cases aO:k<L.length
    ·obtain⟨g',o',dv,rfl,hg,hc,hb,_⟩:=HL.at_ k aO;have y3:=hc 11 dv rfl;obtain⟨dA,dc,rfl,_,Kn,_⟩:=id hb;have mO:(k:Int)<L.length:=ai;have cT:=ae aO;have AY:=ae (show L.getD k default∈L by simp[aO]);clear hc hb aO hk;generalize hd:L.getD k default=a at *;have HD:=ae hd;clear hd
     by_cases c3:100<a.d.length
     ·have OD:(100:Int)<a.d.length:=ai;go_wp2;go_ret;refine⟨?_,HO⟩;rw[um.out];have:(L.any fun a=>decide (100<a.d.length))=true:=List.any_eq_true.2 ⟨a,AY,by simpa using c3⟩;rw[this];simp
     ·have OD:¬(100:Int)<a.d.length:=ai;go_wp2
      go_roundw
      case rel=>
       refine⟨k+1,cT,by go_num,fun j hj=>?_,rfl⟩
       by_cases e:j=k
       ·rw[e,HD.out];omega
       ·exact Mf j ai
      case measure=>simp[intOf];have:=cT.out;omega
    ·obtain rfl:k=L.length:=ai;clear aO hk;go_wp2;go_ret;refine⟨?_,HO⟩;rw[um.out];have:(L.any fun a=>decide (100<a.d.length))=false:=List.any_eq_false.2 fun a ha=>by
      obtain⟨j,hj,rfl⟩:=List.getElem_of_mem ha;have:=Mf.out j hj;simp[hj]at this;simp;omega
     rw[this];simp[c1,c2]
end
def jF (c:aN)(b:Int):Bool:=decide (0≤b)&&decide (b<c.f 2)
def hM (c:aN)(k:Nat)(b:Int)(n:Nat)(level:Int):Int:=if jF c b=false then 9 else if(n:Int)≠c.f 3 then 10 else if dt c k b level=false then 5 else 0
theorem sA {c:aN}{k:Nat}{b level:Int}(h:dt c k b level=true):jF c b=true:=by
 unfold dt at h;simp only[Bool.and_eq_true]at h;unfold jF;simp[h.1]
theorem nD {c:aN}{k:Nat}{b:Int}{n:Nat}{level:Int}(h:hM c k b n level=0):dt c k b level=true∧(n:Int)=c.f 3∧0≤b∧b<c.f 2:=by
 unfold hM at h
 split at h
 ·cases h
 ·rename_i h1
  split at h
  ·cases h
  ·rename_i h2
   split at h
   ·cases h
   ·rename_i h3
    have h3:dt c k b level=true:=by simpa using h3
    have h4:=sA h3;unfold jF at h4;simp only[Bool.and_eq_true,decide_eq_true_eq]at h4;exact⟨h3,ai,h4.1,h4.2⟩
section
variable {c:aN}{k:Nat}{hP:dJ c}{hk:k<3}{i:(jW c k hP hk).ι}{w:World}{cb mb:Nat}{hv:Value}{s:(jW c k hP hk).σ}{D:Int→Option gA}{b:Int}{dl:List Int}{dv:Value}
theorem zQ (h:aQ (jW c k hP hk) i w cb mb c hv (k+1) s D)(eE:b8 w dv dl)(level:Int)(hc:hM c k b dl.length level≠0):
 Calls Tryz.prog 101 #[aI cb,.agg #[ah b,dv],ah level] w fun e w'=>e= .returned (.tuple #[.agg zF,.bool false,ah (hM c k b dl.length level)])∧af aA w w':=by
 unfold hM at *
 by_cases h1:jF c b=false
 ·rw[if_pos h1]at *;exact sY h eE h1 level
 ·rw[if_neg h1]at *;have h1:jF c b=true:=by simpa using h1
  by_cases h2:(dl.length:Int)≠c.f 3
  ·rw[if_pos h2]at *;exact vL h eE h1 h2 level
  ·rw[if_neg h2]at *
   by_cases h3:dt c k b level=false
   ·rw[if_pos h3]at *;exact sZ h eE h1 ai level fun w' h'=>by
     have:=l6 b level h';rw[h3]at this;exact this
   ·rw[if_neg h3]at hc;exact absurd rfl hc
theorem EG (h:aQ (jW c k hP hk) i w cb mb c hv (k+1) s D)(eE:b8 w dv dl)(Ft:∀j,aJ dv j→¬(jW c k hP hk).F i j∧j≠mb)(level:Int)(hc:hM c k b dl.length level=0)(qb:(jW c k hP hk).sp.sk s<jH):
 Calls Tryz.prog 101 #[aI cb,.agg #[ah b,dv],ah level] w (nu (jW c k hP hk) i cb mb c hv (k+1) s D b dl w):=by
 obtain⟨h1,h2,h3,h4⟩:=nD hc;exact r7 h eE Ft h3 h4 h2 level (fun w' h'=>by
  have:=l6 b level h';rw[h1]at this;exact this) (sB h1) qb
theorem jO:∀{L L':List Int},L.Nodup→(∀x∈L,x∈L')→L.length≤L'.length
 | [],L',_,_=>Nat.zero_le _
 |a :: L,L',hn,h=>by
  rw[List.nodup_cons]at hn;have ha:=h a (List.mem_cons_self ..);have:=jO (L':=L'.erase a) hn.2 fun x hx=>(List.mem_erase_of_ne (fun(e:x=a)=>hn.1 (e▸hx))).2 (h x (List.mem_cons_of_mem _ hx))
  rw[List.length_erase_of_mem ha]at this;have:=List.length_pos_of_mem ha;rw[List.length_cons];omega
theorem EO {L L':List Int}{b v:Int}(hn:L.Nodup)(ks:L'.Nodup)(hv:v∈L)(hb:b∉L)(h:∀y,y∈L'↔y=b∨(y∈L∧y≠v)):L'.length=L.length:=by
 have e:(b :: L.erase v).length=L.length:=by
  rw[List.length_cons,List.length_erase_of_mem hv];have:=List.length_pos_of_mem hv;omega
 have GY:(b :: L.erase v).Nodup:=List.nodup_cons.2 ⟨fun h2=>hb (List.mem_of_mem_erase h2),hn.erase v⟩;have h1:L'.length≤(b :: L.erase v).length:=jO ks fun x hx=>by
  rcases(h x).1 hx with rfl|⟨h3,h4⟩
  ·exact List.mem_cons_self ..
  ·exact List.mem_cons_of_mem _ ((List.mem_erase_of_ne h4).2 h3)
 have h2:(b :: L.erase v).length≤L'.length:=jO GY fun x hx=>by
  rcases List.mem_cons.1 hx with rfl|h3
  ·exact(h _).2 (.inl rfl)
  ·exact(h x).2 (.inr ⟨List.mem_of_mem_erase h3,fun e=>by rw[e,hn.mem_erase_iff]at h3;exact h3.1 rfl⟩)
 omega
end
structure PM where
 m:ec
 d:List Int
def Du:List TypeId:=[227,229,206,203,199,191,233,100]
def aZ.LK (K:aZ):Prop:=∀(i:K.ι) (s:K.σ) (w:World),K.R i s w→∀k,K.F i k→∀t cs,Box w k t cs→t∈Du
theorem cU.boxes {w:World}{g eb m:Nat}{S:Nat→List Int}(h:cU w g eb m S):(∃cs,Box w g 227 cs)∧∃cs,Box w eb 229 cs:=by
 obtain⟨N,E,hm,_⟩:=h;exact⟨⟨_,hm.1⟩,_,hm.2⟩
theorem cU.M8 {w:World}{g eb m:Nat}{S:Nat→List Int}(h:cU w g eb m S){k:Nat}(hk:k=g∨k=eb){t:TypeId}{cs:Array Value}(hb:Box w k t cs):t=227∨t=229:=by
 obtain⟨⟨c1,h1⟩,c2,h2⟩:=h.boxes;rcases hk with e|e
 ·rw[e]at hb;exact .inl (hb.same h1).1
 ·rw[e]at hb;exact .inr (hb.same h2).1
theorem cU.BL {w:World}{g eb m:Nat}{S:Nat→List Int}(h:cU w g eb m S){k:Nat}(hk:k=g∨k=eb){t:TypeId}{cs:Array Value}(hb:Box w k t cs):t∈Du:=by
 rcases h.M8 hk hb with e|e<;>rw[e]<;>decide
theorem Gq {c:aN}{k:Nat}(hP:dJ c)(hk:k<3):(jW c k hP hk).LK:=by
 refine gV (P:=aZ.LK) (fun _=>?_) (fun _ _=>?_) (fun _ _=>?_)
 ·intro i s w h j hj t cs hb;have h:jg (c.f 2) (eG c) c.h (gw c.h (eG c)) k i s w:=h;rcases hj with e|e|e|e|e|⟨h0,o,e⟩
  ·rw[e]at hb;rw[(hb.same h.b.az).1];decide
  ·exact h.b.sp.BL (.inl e) hb
  ·exact h.b.sp.BL (.inr e) hb
  ·rw[e]at hb;rw[(hb.same h.b.pl.az).1];decide
  ·rw[e]at hb;rw[(hb.same h.b.pl.prt).1];decide
  ·obtain⟨cs',h2⟩:=h.b.pl.ht h0 j o e;rw[(hb.same h2).1];decide
 ·intro i s w h j hj t cs hb;have h:cJ w i.1 i.2.1 i.2.2 (cR c k) s∧pR (cR c k) s:=h;rcases hj with e|e|e
  ·rw[e]at hb;rw[(hb.same (show Box w i.1 203 _ from h.1.m)).1];decide
  ·exact h.1.sp.BL (.inl e) hb
  ·exact h.1.sp.BL (.inr e) hb
 ·intro i s w h j hj t cs hb;have h:ed w i.1 i.2.1 i.2.2 (c.f (9+k)).toNat s∧_:=h;rcases hj with e|e|e
  ·rw[e]at hb;rw[(hb.same h.1.az).1];decide
  ·exact h.1.sp.BL (.inl e) hb
  ·exact h.1.sp.BL (.inr e) hb
structure ZN where
 B:Nat
 N:Nat→Prop
def uH (Z:ZN)(w:World)(k:Nat):Prop:=k<Z.B∨((∃cs,Box w k 5 cs)∧¬Z.N k)
def pZ (Z:ZN)(w:World)(v:Value)(l:List Int):Prop:=b8 w v l∧(0<l.length→∀k,aJ v k→uH Z w k)
def Wr (Z:ZN)(S:Nat→Prop)(w:World):Prop:=∀k,k<w.heap.size→S k→Z.B≤k∧(Z.N k∨∀cs,¬Box w k 5 cs)
variable {Z:ZN}{w w':World}{S S':Nat→Prop}{v:Value}{l:List Int}
theorem Wr.off {k:Nat}(hS:Wr Z S w)(hd:uH Z w k)(hk:k<w.heap.size):¬S k:=fun e=>by
 obtain⟨h1,h2⟩:=hS k hk e;rcases hd with h3|⟨⟨cs,h3⟩,h4⟩
 ·omega
 ·rcases h2 with h2|h2
  ·exact h4 h2
  ·exact h2 cs h3
theorem uH.ao {k:Nat}(hd:uH Z w k)(hk:k<w.heap.size)(ho:af S w w')(hS:Wr Z S w):uH Z w' k:=by
 have hn:=hS.off hd hk;rcases hd with h3|⟨⟨cs,h3⟩,h4⟩
 ·exact .inl h3
 ·exact .inr ⟨⟨cs,ho.az h3 hn⟩,h4⟩
theorem pZ.ao (h:pZ Z w v l)(ho:af S w w')(hS:Wr Z S w):pZ Z w' v l:=
 ⟨h.1.keep ho fun h0 k hk aO=>hS.off (h.2 h0 k hk) aO,fun h0 k hk=>(h.2 h0 k hk).ao (vn h.1 h0 k hk) ho hS⟩
theorem Wr.non:Wr Z aA w:=fun _ _ h=>h.elim
theorem pZ.keep (h:pZ Z w v l)(ho:af aA w w'):pZ Z w' v l:=h.ao ho Wr.non
theorem pZ.nil (Z:ZN)(w:World):pZ Z w ey []:=⟨⟨none,0,rfl,dT _,eK _,Src.kv w none⟩,fun h=>absurd h (Nat.lt_irrefl _)⟩
theorem pZ.row (h:Row 5 w v (bytes l))(hl:l.length≤140737488355328)(hN:∀k,aJ v k→¬Z.N k):pZ Z w v l:=
 ⟨h.nR hl,fun _ k hk=>.inr ⟨h.az hk,hN k hk⟩⟩
theorem pZ.shape (h:pZ Z w v l):∃A c,v= .slice A l.length c:=by
 obtain⟨A,c,e,_⟩:=h.1;exact⟨A,c,e⟩
def dh (Z:ZN)(w:World)(base:Nat)(v:Value)(L:List PM):Prop:=
 ∃X:List (PM×Value),X.map Prod.fst=L∧w.ownsRow base 37 11 v X.length (X.flatMap fun p=>(bc p.1.m p.2).toList)∧∀p∈X,pZ Z w p.2 p.1.d
theorem dh.nil (Z:ZN)(w:World)(base:Nat):dh Z w base ey []:=⟨[],rfl,World.ownsRow_nil _ _ _ _,fun _ h=>by cases h⟩
theorem dh.ao {base:Nat}{L:List PM}(h:dh Z w base v L)(ho:af S w w')(hS:Wr Z S w)(hn:∀k,aJ v k→¬S k):dh Z w' base v L:=by
 obtain⟨X,h1,h2,h3⟩:=h;exact⟨X,h1,dO h2 ho hn,fun p hp=>(h3 p hp).ao ho hS⟩
theorem dh.keep {base:Nat}{L:List PM}(h:dh Z w base v L)(ho:af aA w w'):dh Z w' base v L:=h.ao ho Wr.non fun _ _=>id
theorem py {base iy:Nat}{e:TypeId}{size n:Nat}{xs:List Value}(h:w.ownsRow base e size v n xs)(hb:iy≤base):w.ownsRow iy e size v n xs:=by
 refine⟨h.1,?_⟩;rcases h.2 with h2|⟨g,cap,cur,h1,h2,h3⟩
 ·exact .inl h2
 ·exact .inr ⟨g,cap,cur,h1,Nat.le_trans hb h2,h3⟩
theorem dh.low {base iy:Nat}{L:List PM}(h:dh Z w base v L)(hb:iy≤base):dh Z w iy v L:=by
 obtain⟨X,h1,h2,h3⟩:=h;exact⟨X,h1,py h2 hb,h3⟩
theorem pz {base:Nat}{e:TypeId}{size n:Nat}{xs:List Value}(h:w.ownsRow base e size v n xs){k:Nat}(hk:aJ v k):base≤k∧∃cs,Box w k e cs:=by
 rcases h.2 with⟨rfl,_⟩|⟨g,cap,cur,rfl,hb,hg,_⟩
 ·exact(bq hk).elim
 ·have e:=aq.1 hk;subst e;exact⟨hb,cur,hg⟩
theorem dh.az {base:Nat}{L:List PM}(h:dh Z w base v L){k:Nat}(hk:aJ v k):base≤k∧∃cs,Box w k 37 cs:=by
 obtain⟨X,_,h2,_⟩:=h;exact pz h2 hk
theorem dh.shape {base:Nat}{L:List PM}(h:dh Z w base v L):∃A c,v= .slice A L.length c∧L.length≤c∧c≤maxLen:=by
 obtain⟨X,h1,h2,_⟩:=h;obtain⟨A,c,e,h3,h4⟩:=oH h2;subst h1;rw[List.length_map];exact⟨A,c,e,h3,h4⟩
theorem dh.app {base:Nat}{v':Value}{X:List (PM×Value)}{L:List PM}(p:PM×Value)(h:w.ownsRow base 37 11 v (X.length+1) ((X.flatMap fun p=>(bc p.1.m p.2).toList) ++ (bc p.1.m p.2).toList))(hL:X.map Prod.fst=L)(hd:∀q∈X,pZ Z w q.2 q.1.d)(hp:pZ Z w p.2 p.1.d):
 dh Z w base v (L ++ [p.1]):=by
 refine⟨X ++ [p],by rw[List.map_append,hL];rfl,?_,fun q hq=>?_⟩
 ·rw[List.length_append,List.flatMap_append];simpa using h
 ·rcases List.mem_append.1 hq with h1|h1
  ·exact hd q h1
  ·rw[List.mem_singleton.1 h1];exact hp
end
end Go.Proofs.YtpcfhbeakecihaaGreat

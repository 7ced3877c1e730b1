/- Lemmas. -/
import Derived.Test.YtchofaecncibjaaGreatM25
import Derived.Test.YtchofaecncibjaaGreatM31
set_option linter.all false
set_option maxHeartbeats 20000000
set_option maxRecDepth 100000
namespace Go.Proofs.YtchofaecncibjaaGreat
section
open Go.ChangeShapes Go.RowKit Go.Shelf Go.WideShapes
theorem jJ (l:jR)(i k:Nat):jH l i k<0↔(l.getD k default).1*(l.getD i default).2<(l.getD i default).1*(l.getD k default).2:=by
 unfold jH uQ
 split
 ·simp_all
 ·split<;>simp_all
theorem se{P:Prop}(h:P:=by
 rw[show e*b*d=e*d*b by rw[Int.mul_assoc,Int.mul_comm b d,←Int.mul_assoc],show a*f*d=a*d*f by rw[Int.mul_assoc,Int.mul_comm f d,←Int.mul_assoc]];omega):P:=h
theorem Ac {a b c d e f:Int}(hb:0<b)(hd:0<d)(hf:0<f)(h1:c*b<a*d)(h2:e*d<c*f):e*b<a*f:=by
 have h3:e*d*b<c*f*b:=Int.mul_lt_mul_of_pos_right h2 hb;have h4:c*b*f<a*d*f:=Int.mul_lt_mul_of_pos_right h1 hf;have h5:c*f*b=c*b*f:=by rw[Int.mul_assoc,Int.mul_comm f b,←Int.mul_assoc]
 have h6:(e*b)*d<(a*f)*d:=by
  exact se
 exact Int.lt_of_mul_lt_mul_right h6 (Int.le_of_lt hd)
theorem gr {a b c d e f:Int}(hb:0<b)(hd:0<d)(hf:0<f)(h1:a*d≤c*b)(h2:c*f≤e*d):a*f≤e*b:=by
 have h3:c*f*b≤e*d*b:=Int.mul_le_mul_of_nonneg_right h2 (Int.le_of_lt hb);have h4:a*d*f≤c*b*f:=Int.mul_le_mul_of_nonneg_right h1 (Int.le_of_lt hf);have h5:c*f*b=c*b*f:=by rw[Int.mul_assoc,Int.mul_comm f b,←Int.mul_assoc]
 have h6:(a*f)*d≤(e*b)*d:=by
  exact se
 exact Int.le_of_mul_le_mul_right h6 hd
theorem XB {l:jR}{m:Nat}(hm:l.length=m+1)(cD:kN l):Sort.SWO (ltOf fun(i k:Fin (m+1))=>jH l i.val k.val) where
 irrefl:=fun x=>by
  unfold ltOf;rw[decide_eq_false];rw[jJ];omega
 trans:=fun x y z h1 h2=>by
  unfold ltOf at *;rw[decide_eq_true_eq]at *;rw[jJ]at *;exact Ac (cD _ ao).b0 (cD y.val ao).b0 (cD _ ao).b0 h1 h2
 ntrans:=fun x y z h1 h2=>by
  unfold ltOf at *;rw[decide_eq_false_iff_not]at *;rw[jJ]at *;have:=gr (cD x.val ao).b0 (cD y.val ao).b0 (cD z.val ao).b0 (Int.not_lt.1 h1) (Int.not_lt.1 h2);omega
theorem Ab {l:jR}(cD:kN l):(bq l).Perm (List.range l.length):=by
 cases h:l.length with
 |zero=>rw[lC h];exact List.Perm.nil
 |succ m=>
  rw[lD h];have hp:=(Sort.insertionSort_holds (XB h cD) (Array.ofFn fun i=>i) 0 (m+1) (dT _) (by simp)).1;obtain⟨h1,_,h3⟩:=hp;generalize Sort.insertionSort (ltOf fun(i k:Fin (m+1))=>jH l i.val k.val) (Array.ofFn fun i=>i) 0 (m+1)=A at *;have e1:A.extract 0 (m+1)=A:=by
   apply Array.extract_eq_self_of_le;rw[h1];simp
  have e2:(Array.ofFn (n:=m+1) fun i=>i).extract 0 (m+1)=Array.ofFn fun i=>i:=by
   apply Array.extract_eq_self_of_le;simp
  rw[e1,e2]at h3;refine(h3.map Fin.val).trans (List.Perm.of_eq ?_);apply List.ext_getElem
  ·simp
  ·intro i h5 h6;simp only[List.getElem_map,Array.getElem_toList,Array.getElem_ofFn,List.getElem_range]
theorem ks {l:jR}(cD:kN l):(bq l).Nodup:=(Ab cD).nodup_iff.2 List.nodup_range
theorem S6 {c:aM}(hP:cK c):(∀r x,0≤eW c.h (dV c) r x)∧∀x,x<3→pE (eW c.h (dV c)) x c.h.length≤dV c x:=
 XW hP.hs (fun x hx=>by have:=hP.pc x hx;show 0≤c.f (9+x);omega) (ks (zp hP.hs))
def aQ (c:aM)(k:Nat)(hP:cK c)(hk:k<3):aZ:=
 if c.f 5=2 then pJ c k else if c.f (6+k)=2 then mqK (fE c k) (kj hP hk)else Rj (c.f (9+k)).toNat
theorem kp {c:aM}{k:Nat}(hP:cK c)(hk:k<3):(aQ c k hP hk).Made c (k+1):=by
 unfold aQ
 by_cases h1:c.f 5=2
 ·rw[if_pos h1];exact O0 hP hk h1 fun r _=>(S6 hP).1 r k
 ·rw[if_neg h1]
  by_cases h2:c.f (6+k)=2
  ·rw[if_pos h2];exact Xd hP hk h1 h2
  ·rw[if_neg h2];exact TW hP hk h1 h2
end
section
open Go.ChangeShapes Go.RowKit Go.WideShapes
theorem IJ {O:Nat→Nat→Int}{t:Nat}{S:Nat→List Int}:∀n,(∀r,r<n→((S r).length:Int)≤O r t)→((cW S n).length:Int)≤pE O t n
 |0,_=>by simp[cW,pE]
 |n+1,h=>by
  rw[iu,List.length_append];have h1:=IJ n (fun r hr=>h r ao);have h2:=h n ao;unfold pE;omega
section
variable {c:aM}{k:Nat}{hP:cK c}{hk:k<3}
theorem xP (P:aZ→Prop)(p1:c.f 5=2→P (pJ c k))(p2:c.f 5≠2→c.f (6+k)=2→P (mqK (fE c k) (kj hP hk)))(p3:c.f 5≠2→c.f (6+k)≠2→P (Rj (c.f (9+k)).toNat)):P (aQ c k hP hk):=by
 unfold aQ
 by_cases h1:c.f 5=2
 ·rw[if_pos h1];exact p1 h1
 ·rw[if_neg h1]
  by_cases h2:c.f (6+k)=2
  ·rw[if_pos h2];exact p2 h1 h2
  ·rw[if_neg h2];exact p3 h1 h2
theorem Xs {i:(aQ c k hP hk).ι}{s:(aQ c k hP hk).σ}{w:World}(h:(aQ c k hP hk).R i s w):(((aQ c k hP hk).sp.all s).length:Int)≤c.f (9+k):=by
 have hc:=hP.pc k hk;refine xP (hP:=hP) (hk:=hk) (fun K=>∀(i:K.ι) (s:K.σ) (w:World),K.R i s w→((K.sp.all s).length:Int)≤c.f (9+k)) (fun h1 i s w h=>?_) (fun h1 h2 i s w h=>?_) (fun h1 h2 i s w h=>?_) i s w h
 ·have h2:wW (c.f 2) (dV c) c.h (eW c.h (dV c)) k i s w:=h;have h3:=IJ c.h.length h2.i.most;have h4:=(S6 hP).2 k hk;exact Int.le_trans h3 h4
 ·have h3:mqR i.1 i.2.1 i.2.2 (fE c k) s w:=h;have h4:=h3.2.len
  show((aV (fE c k) s).length:Int)≤_
  have h5:(fE c k).cap=(c.f (9+k)).toNat:=rfl;omega
 ·have h3:aaf i.1 i.2.1 i.2.2 (c.f (9+k)).toNat s w:=h;have h4:=h3.2
  show((List.length (α:=Int) s:Nat):Int)≤_
  omega
theorem o8:(aQ c k hP hk).sp.eE (aQ c k hP hk).s0=0:=
 xP (hP:=hP) (hk:=hk) (fun K=>K.sp.eE K.s0=0) (fun _=>rfl) (fun _ _=>rfl) (fun _ _=>rfl)
def fj (c:aM)(k:Nat)(b level:Int):Bool:=decide (0≤b)&&decide (b<c.f 2)&&(if c.f 5=2 then decide (0<bO c.h (eW c.h (dV c)) b k)else(decide (c.f 5≠1)||decide (level=((k+1:Nat):Int))))
theorem pd {b level:Int}(h:fj c k b level=true):(aQ c k hP hk).sp.takes b:=by
 unfold fj at h;simp only[Bool.and_eq_true]at h;unfold aQ
 by_cases h1:c.f 5=2
 ·rw[if_pos h1];rw[if_pos h1]at h;have h2:0<bO c.h (eW c.h (dV c)) b k:=of_decide_eq_true h.2;exact h2
 ·rw[if_neg h1]
  by_cases h2:c.f (6+k)=2
  ·rw[if_pos h2];trivial
  ·rw[if_neg h2];trivial
end
section
theorem Lw {c:aM}{k:Nat}{i:(pJ c k).ι}{w:World}{cb mb:Nat}{hv:Value}{s:(pJ c k).σ}{D:Int→Option oM}(b level:Int)(h:cP (pJ c k) i w cb mb c hv (k+1) s D)(hp:c.f 5=2):
 Calls Tryz.prog 120 #[aO cb,ah b,ah level] w fun e w'=>e= .returned (.bool (decide (0≤b)&&decide (b<c.f 2)&&decide (0<bO c.h (eW c.h (dV c)) b k)))∧ag az w w':=by
 have hx5:aw w cb 5 (c.f 5):=h.aq.af (DR _ _ _ _ _ _ aD);rw[hp]at hx5;have agw:aE w cb 18 (.iface 178 (aO (tE.p i))):=h.aq.af (BH _ _ _ _ _ _);have HT:=mV b h;have hR:wW (c.f 2) (dV c) c.h (eW c.h (dV c)) k i s w:=h.ord;have HP:=uz b w hR.b;rw[hR.t]at HP;have HP:=ae HP;generalize(decide (0≤b)&&decide (b<c.f 2))=kk at *;generalize(decide (0<bO c.h (eW c.h (dV c)) b k))=t at *;have HT:=ae HT;clear h hR hp;generalize tE.p i=p at *
 cases kk with
 |false=>
  go_enter Tryz.func120,Tryz.ntmps120
  go_wp2_with (go_at_call 119;refine HT.mono ?_;rintro e w1 ⟨rfl,rfl⟩);go_ret;exact⟨rfl,ag.aj _ _⟩
 |true=>
  have hta:∀w,(Instr.typeAssert (.iface 178 (aO p)) 122 178 true).run Tryz.prog w= .ok (.tuple #[aO p,.bool true]) w:=fun w=>by kernel_rfl
  go_enter Tryz.func120,Tryz.ntmps120
  go_wp2_with (first|(go_at_call 119;refine HT.mono ?_;rintro e w1 ⟨rfl,rfl⟩)|(go_at_call 141;refine HP.mono ?_;rintro e w1 ⟨rfl,aR⟩));go_ret;exact⟨rfl,aR.aA⟩
theorem rE{P:Prop}(h:P:=by
 refine(PR b level h h1).mono fun e w' ⟨h2,h3⟩=>⟨?_,h3▸ag.aj _ _⟩
 rw[h2];unfold fj;rw[if_neg h1];rfl):P:=h
theorem DY {c:aM}{k:Nat}{hP:cK c}{hk:k<3}{i:(aQ c k hP hk).ι}{w:World}{cb mb:Nat}{hv:Value}{s:(aQ c k hP hk).σ}{D:Int→Option oM}(b level:Int)(h:cP (aQ c k hP hk) i w cb mb c hv (k+1) s D):
 Calls Tryz.prog 120 #[aO cb,ah b,ah level] w fun e w'=>e= .returned (.bool (fj c k b level))∧ag az w w':=by
 refine xP (hP:=hP) (hk:=hk) (fun K=>∀(i:K.ι) (s:K.σ),cP K i w cb mb c hv (k+1) s D→Calls Tryz.prog 120 #[aO cb,ah b,ah level] w fun e w'=>e= .returned (.bool (fj c k b level))∧ag az w w') (fun h1 i s h=>?_) (fun h1 h2 i s h=>?_) (fun h1 h2 i s h=>?_) i s h
 ·unfold fj;rw[if_pos h1];exact Lw b level h h1
 ·exact rE
 ·exact rE
end
section
theorem OV {KO:aZ}{i:KO.ι}{w:World}{cb mb:Nat}{c:aM}{hv:Value}{bc:Nat}{s:KO.σ}{D:Int→Option oM}(h:cP KO i w cb mb c hv bc s D)
 {b:Int} {dl:List Int} {dv:Value} (kv:nD w dv dl) (Gq:(decide (0≤b)&&decide (b<c.f 2))=false) (level:Int):
 Calls Tryz.prog 89 #[aO cb,.agg #[ah b,dv],ah level] w fun e w'=>e= .returned (.tuple #[.agg zF,.bool false,ah 9])∧ag az w w':=by
 obtain⟨dA,dc,rfl,Va,Ql,gj⟩:=id kv;have sT:=fun W (hC:cP KO i W cb mb c hv bc s D)=>mV b hC
 rw[Gq]at sT;have sT:=ae sT;have H:=ae h;have fB:=(Box.fresh w 102 #[ah b,.slice dA dl.length dc]).alloc (.cells zF 102);have dX:=Box.fresh (w.alloc (.cells #[ah b,.slice dA dl.length dc] 102)) 102 zF;rw[World.size_alloc]at dX;have k6:=ae fB;have tm:=ae dX;have aX:=ae<|((ag.aj az w).alloc (.cells #[ah b,.slice dA dl.length dc] 102)).alloc (.cells zF 102);have H1:=ae<|H.keep aX;clear h kv gj fB dX Va Ql
 go_enter Tryz.func89,Tryz.ntmps89
 go_upto_region 1 with fail;change Code.wp _ _ _ _ ((w.alloc (.cells #[ah b,.slice dA dl.length dc] 102)).alloc (.cells zF 102));generalize(w.alloc (.cells #[ah b,.slice dA dl.length dc] 102)).alloc (.cells zF 102)=W1 at *;obtain⟨fb,gu⟩:∃fb,fb=w.heap.size:=⟨_,rfl⟩;obtain⟨rb,jO⟩:∃rb,rb=w.heap.size+1:=⟨_,rfl⟩;have oK:=ae (show w.heap.size≤rb by omega);rw[←jO]at tm;rw[←gu]at k6;rw[←jO,←gu];clear gu jO;have f0:aw W1 fb 0 b:=k6.af rfl;go_wp2_with (first|(go_at_call 119;refine(sT W1 H1).mono ?_;rintro e W ⟨rfl,rfl⟩)|(refine fJ zF tm gM ?_))
 (try simp only[Exit.inBlock,Exit.then])
 refine bodyPost_ret (nY rfl _ _ rb _ zF (0,0) _ rfl (tm.au _) Tryz.underlying102 rfl bZ) rfl ?_;exact⟨rfl,aX.au (.inr oK) _⟩
theorem TC {KO:aZ}{i:KO.ι}{w:World}{cb mb:Nat}{c:aM}{hv:Value}{bc:Nat}{s:KO.σ}{D:Int→Option oM}(h:cP KO i w cb mb c hv bc s D)
 {b:Int} {dl:List Int} {dv:Value} (kv:nD w dv dl) (Gq:(decide (0≤b)&&decide (b<c.f 2))=true) (hl:(dl.length:Int)≠c.f 3) (level:Int):
 Calls Tryz.prog 89 #[aO cb,.agg #[ah b,dv],ah level] w fun e w'=>e= .returned (.tuple #[.agg zF,.bool false,ah 10])∧ag az w w':=by
 obtain⟨dA,dc,rfl,Va,Ql,gj⟩:=id kv;have sT:=fun W (hC:cP KO i W cb mb c hv bc s D)=>mV b hC
 rw[Gq]at sT;have sT:=ae sT;generalize hz:c.f 3=sz at *;have HZ:=ae hz;clear hz;have hne:((dl.length:Int) != sz)=true:=by simpa using hl
 clear hl;have H:=ae h;have fB:=(Box.fresh w 102 #[ah b,.slice dA dl.length dc]).alloc (.cells zF 102);have dX:=Box.fresh (w.alloc (.cells #[ah b,.slice dA dl.length dc] 102)) 102 zF;rw[World.size_alloc]at dX;have k6:=ae fB;have tm:=ae dX;have aX:=ae<|((ag.aj az w).alloc (.cells #[ah b,.slice dA dl.length dc] 102)).alloc (.cells zF 102);have H1:=ae<|H.keep aX;clear h kv gj fB dX Va Ql
 go_enter Tryz.func89,Tryz.ntmps89
 go_upto_region 1 with fail;change Code.wp _ _ _ _ ((w.alloc (.cells #[ah b,.slice dA dl.length dc] 102)).alloc (.cells zF 102));generalize(w.alloc (.cells #[ah b,.slice dA dl.length dc] 102)).alloc (.cells zF 102)=W1 at *;obtain⟨fb,gu⟩:∃fb,fb=w.heap.size:=⟨_,rfl⟩;obtain⟨rb,jO⟩:∃rb,rb=w.heap.size+1:=⟨_,rfl⟩;have oK:=ae (show w.heap.size≤rb by omega);rw[←jO]at tm;rw[←gu]at k6;rw[←jO,←gu];clear gu jO;have f0:aw W1 fb 0 b:=k6.af rfl;have f1:aE W1 fb 1 (.slice dA dl.length dc):=k6.af rfl;have s3:aw W1 cb 3 sz:=by rw[←HZ.out];exact H1.aq.af (DR _ _ _ _ _ _ aD)
 go_upto_region 5 with(go_at_call 119;refine(sT W1 H1).mono ?_;rintro e W ⟨rfl,rfl⟩);refine oa (fun w':World=>w'=W1.drew) 9 ?_ ?_
 ·rfl
 intro aH;refine bX [0,1,2,3,4,5,6,7,8] ?_;refine cG ?_;clear aH sT;have lG:=aB (Box W1.drew fb 102 #[ah b,.slice dA dl.length dc]) (k6);have CS:=aB (Box W1.drew rb 102 zF) (tm);have bf:=ae aX.drew;have H2:=aB (cP KO i W1.drew cb mb c hv bc s D) (H1.keep ((ag.aj az W1).drew));clear f0 f1 s3 H1 k6 tm aX;generalize W1.drew=W2 at *;go_wp2_with (refine fJ zF CS gM ?_)
 (try simp only[Exit.inBlock,Exit.then])
 refine bodyPost_ret (nY rfl _ _ rb _ zF (0,0) _ rfl (CS.au _) Tryz.underlying102 rfl bZ) rfl ?_;exact⟨rfl,bf.au (.inr oK) _⟩
theorem OW {KO:aZ}{i:KO.ι}{w:World}{cb mb:Nat}{c:aM}{hv:Value}{bc:Nat}{s:KO.σ}{D:Int→Option oM}(h:cP KO i w cb mb c hv bc s D)
 {b:Int} {dl:List Int} {dv:Value} (kv:nD w dv dl) (Gq:(decide (0≤b)&&decide (b<c.f 2))=true) (hl:(dl.length:Int)=c.f 3) (level:Int)
 (HT:∀w',cP KO i w' cb mb c hv bc s D→Calls Tryz.prog 120 #[aO cb,ah b,ah level] w' fun e mR=>e= .returned (.bool false)∧ag az w' mR):
 Calls Tryz.prog 89 #[aO cb,.agg #[ah b,dv],ah level] w fun e w'=>e= .returned (.tuple #[.agg zF,.bool false,ah 5])∧ag az w w':=by
 obtain⟨dA,dc,rfl,Va,Ql,gj⟩:=id kv;have sT:=fun W (hC:cP KO i W cb mb c hv bc s D)=>mV b hC
 rw[Gq]at sT;have sT:=ae sT;generalize hz:c.f 3=sz at *;have HZ:=ae hz;clear hz;have vE:=ae HT;clear HT;have hne:((dl.length:Int) != sz)=false:=by simpa using hl
 clear hl;have H:=ae h;have fB:=(Box.fresh w 102 #[ah b,.slice dA dl.length dc]).alloc (.cells zF 102);have dX:=Box.fresh (w.alloc (.cells #[ah b,.slice dA dl.length dc] 102)) 102 zF;rw[World.size_alloc]at dX;have k6:=ae fB;have tm:=ae dX;have aX:=ae<|((ag.aj az w).alloc (.cells #[ah b,.slice dA dl.length dc] 102)).alloc (.cells zF 102);have H1:=ae<|H.keep aX;clear h kv gj fB dX Va Ql
 go_enter Tryz.func89,Tryz.ntmps89
 go_upto_region 1 with fail;change Code.wp _ _ _ _ ((w.alloc (.cells #[ah b,.slice dA dl.length dc] 102)).alloc (.cells zF 102));generalize(w.alloc (.cells #[ah b,.slice dA dl.length dc] 102)).alloc (.cells zF 102)=W1 at *;obtain⟨fb,gu⟩:∃fb,fb=w.heap.size:=⟨_,rfl⟩;obtain⟨rb,jO⟩:∃rb,rb=w.heap.size+1:=⟨_,rfl⟩;have oK:=ae (show w.heap.size≤rb by omega);rw[←jO]at tm;rw[←gu]at k6;rw[←jO,←gu];clear gu jO;have f0:aw W1 fb 0 b:=k6.af rfl;have f1:aE W1 fb 1 (.slice dA dl.length dc):=k6.af rfl;have s3:aw W1 cb 3 sz:=by rw[←HZ.out];exact H1.aq.af (DR _ _ _ _ _ _ aD)
 go_upto_region 5 with(go_at_call 119;refine(sT W1 H1).mono ?_;rintro e W ⟨rfl,rfl⟩);refine oa (fun w':World=>w'=W1.drew) 9 ?_ ?_
 ·rfl
 intro aH;refine bX [0,1,2,3,4,5,6,7,8] ?_;refine cG ?_;clear aH sT;go_upto_region 7 with fail;have lG:=aB (Box W1.drew fb 102 #[ah b,.slice dA dl.length dc]) (k6);have CS:=aB (Box W1.drew rb 102 zF) (tm);have bf:=ae aX.drew;have H2:=aB (cP KO i W1.drew cb mb c hv bc s D) (H1.keep ((ag.aj az W1).drew));clear f0 f1 s3 H1 k6 tm aX;generalize W1.drew=W2 at *;have f0:aw W2 fb 0 b:=lG.af rfl;go_upto_region 8 with(go_at_call 120;refine(vE W2 H2).mono ?_;rintro e W3 ⟨rfl,cB⟩);have DH:=ae<|cB.aq CS id;have bn:=ae<|bf.trans cB;clear cB;go_wp2_with (refine fJ zF DH gM ?_)
 (try simp only[Exit.inBlock,Exit.then])
 refine bodyPost_ret (nY rfl _ _ rb _ zF (0,0) _ rfl (DH.au _) Tryz.underlying102 rfl bZ) rfl ?_;exact⟨rfl,bn.au (.inr oK) _⟩
end
def oA (c:aM)(b:Int):Bool:=decide (0≤b)&&decide (b<c.f 2)
def gp (c:aM)(k:Nat)(b:Int)(n:Nat)(level:Int):Int:=if oA c b=false then 9 else if(n:Int)≠c.f 3 then 10 else if fj c k b level=false then 5 else 0
theorem Ot {c:aM}{k:Nat}{b level:Int}(h:fj c k b level=true):oA c b=true:=by
 unfold fj at h;simp only[Bool.and_eq_true]at h;unfold oA;simp[h.1]
theorem kr {c:aM}{k:Nat}{b:Int}{n:Nat}{level:Int}(h:gp c k b n level=0):fj c k b level=true∧(n:Int)=c.f 3∧0≤b∧b<c.f 2:=by
 unfold gp at h
 split at h
 ·cases h
 ·rename_i h1
  split at h
  ·cases h
  ·rename_i h2
   split at h
   ·cases h
   ·rename_i h3
    have h3:fj c k b level=true:=by simpa using h3
    have h4:=Ot h3;unfold oA at h4;simp only[Bool.and_eq_true,decide_eq_true_eq]at h4;exact⟨h3,ao,h4.1,h4.2⟩
section
variable {c:aM}{k:Nat}{hP:cK c}{hk:k<3}{i:(aQ c k hP hk).ι}{w:World}{cb mb:Nat}{hv:Value}{s:(aQ c k hP hk).σ}{D:Int→Option oM}{b:Int}{dl:List Int}{dv:Value}
theorem Jh (h:cP (aQ c k hP hk) i w cb mb c hv (k+1) s D)(kv:nD w dv dl)(level:Int)(hc:gp c k b dl.length level≠0):
 Calls Tryz.prog 89 #[aO cb,.agg #[ah b,dv],ah level] w fun e w'=>e= .returned (.tuple #[.agg zF,.bool false,ah (gp c k b dl.length level)])∧ag az w w':=by
 unfold gp at *
 by_cases h1:oA c b=false
 ·rw[if_pos h1]at *;exact OV h kv h1 level
 ·rw[if_neg h1]at *;have h1:oA c b=true:=by simpa using h1
  by_cases h2:(dl.length:Int)≠c.f 3
  ·rw[if_pos h2]at *;exact TC h kv h1 h2 level
  ·rw[if_neg h2]at *
   by_cases h3:fj c k b level=false
   ·rw[if_pos h3]at *;exact OW h kv h1 ao level fun w' h'=>by
     have:=DY b level h';rw[h3]at this;exact this
   ·rw[if_neg h3]at hc;exact absurd rfl hc
theorem TD (h:cP (aQ c k hP hk) i w cb mb c hv (k+1) s D)(kv:nD w dv dl)(eD:∀j,aK dv j→¬(aQ c k hP hk).F i j∧j≠mb)(level:Int)(hc:gp c k b dl.length level=0)(cw:(aQ c k hP hk).sp.eE s<bN):
 Calls Tryz.prog 89 #[aO cb,.agg #[ah b,dv],ah level] w (Nz (aQ c k hP hk) i cb mb c hv (k+1) s D b dl w):=by
 obtain⟨h1,h2,h3,h4⟩:=kr hc;exact XP h kv eD h3 h4 h2 level (fun w' h'=>by
  have:=DY b level h';rw[h1]at this;exact this) (pd h1) cw
end
end
section
open Go.Shelf
def iI (l:jR)(i k:Nat):Bool:=decide (jH l i k<0)||(decide (¬jH l k i<0)&&decide (i<k))
section
variable {α:Type}[Inhabited α]
theorem uf {lt lt':α→α→Bool}(x:α):∀(a j:Nat) (d:Array α),j<d.size→d[j]! =x→(∀p,p<j→lt x d[p]! =lt' x d[p]!)→Sort.insInner lt a j d=Sort.insInner lt' a j d
 |a,0,d,_,_,_=>by unfold Sort.insInner;rfl
 |a,j+1,d,hj,hd,h=>by
  unfold Sort.insInner;rw[hd,h j ao]
  split
  ·refine uf x a j _ (by rw[Sort.swp_size];omega) ?_ fun p hp=>?_
   ·rw[Sort.swp_get d (i:=j+1) (j:=j) ao ao j,if_pos rfl,hd]
   ·rw[Sort.swp_get d (i:=j+1) (j:=j) ao ao p,if_neg ao,if_neg ao];exact h p ao
  ·rfl
theorem vr {lt:α→α→Bool}(P:α→Prop)(a i:Nat):∀(j:Nat) (d:Array α),j≤i→i<d.size→(∀p,p≤i→P d[p]!)→
 (Sort.insInner lt a j d).size=d.size∧(∀p,p≤i→P (Sort.insInner lt a j d)[p]!)∧∀p,i<p→(Sort.insInner lt a j d)[p]! =d[p]!
 |0,d,_,_,h=>by unfold Sort.insInner;exact⟨rfl,h,fun _ _=>rfl⟩
 |j+1,d,hj,hi,h=>by
  unfold Sort.insInner
  split
  ·obtain⟨h1,h2,h3⟩:=vr P a i j (Sort.swp d (j+1) j) ao (by rw[Sort.swp_size];exact hi) fun p hp=>by
    rw[Sort.swp_get d (i:=j+1) (j:=j) ao ao p]
    split
    ·exact h _ ao
    ·split
     ·exact h _ ao
     ·exact h p hp
   refine⟨by rw[h1,Sort.swp_size],h2,fun p hp=>?_⟩;rw[h3 p hp,Sort.swp_get d (i:=j+1) (j:=j) ao ao p,if_neg ao,if_neg ao]
  ·exact⟨rfl,h,fun _ _=>rfl⟩
end
theorem lq {α:Type}[Inhabited α](lt:α→α→Bool)(a b i:Nat)(d:Array α):Sort.insOuter lt a b i d=if i<b then Sort.insOuter lt a b (i+1) (Sort.insInner lt a i d)else d:=by rw[Sort.insOuter]
theorem ue {m:Nat}{lt lt':Fin (m+1)→Fin (m+1)→Bool}(aY:∀x y,y.val<x.val→lt x y=lt' x y):∀(n i:Nat) (d:Array (Fin (m+1))),m+1 - i=n→d.size=m+1→(∀p,i≤p→p<m+1→(d[p]!).val=p)→(∀p,p<i→(d[p]!).val<i)→
 Sort.insOuter lt 0 (m+1) i d=Sort.insOuter lt' 0 (m+1) i d
 |0,i,d,hn,hs,h1,h2=>by
  rw[lq lt 0 (m+1) i d,lq lt' 0 (m+1) i d,if_neg ao,if_neg ao]
 |n+1,i,d,hn,hs,h1,h2=>by
  have hi:i<m+1:=ao;rw[lq lt 0 (m+1) i d,lq lt' 0 (m+1) i d,if_pos hi,if_pos hi];have e:=uf (lt:=lt) (lt':=lt') d[i]! 0 i d ao rfl fun p hp=>aY _ _ (by rw[h1 i (dm _) hi];exact h2 p hp)
  rw[e];obtain⟨g1,g2,g3⟩:=vr (lt:=lt') (fun x:Fin (m+1)=>x.val<i+1) 0 i i d (dm _) ao fun p hp=>by
   by_cases e:p=i
   ·subst e;rw[h1 p (dm _) hi];omega
   ·have:=h2 p ao;omega
  exact ue aY n (i+1) _ ao (by rw[g1,hs]) (fun p hp JL=>by rw[g3 p ao];exact h1 p ao JL) fun p hp=>g2 p ao
theorem FU {l:jR}{m:Nat}(h:l.length=m+1):Sort.insertionSort (ltOf fun(i k:Fin (m+1))=>jH l i.val k.val) (Array.ofFn fun i=>i) 0 (m+1)=Sort.insertionSort (fun(i k:Fin (m+1))=>iI l i.val k.val) (Array.ofFn fun i=>i) 0 (m+1):=by
 unfold Sort.insertionSort;have hg:∀p,p<m+1→((Array.ofFn (n:=m+1) fun i=>i)[p]!).val=p:=fun p hp=>by
  rw[getElem!_pos _ p (by simp;exact hp)];simp only[Array.getElem_ofFn]
 refine ue (fun x y Mj=>?_) _ _ _ rfl (by simp) (fun p hp JL=>hg p JL) fun p hp=>by rw[hg p ao];omega
 unfold ltOf iI;rw[decide_eq_false (show¬x.val<y.val by omega),Bool.and_false,Bool.or_false]
theorem zv {l:jR}{m:Nat}(hm:l.length=m+1)(cD:kN l):Sort.SWO (fun(i k:Fin (m+1))=>iI l i.val k.val):=by
 have b0:∀x:Fin (m+1),0<(l.getD x.val default).2:=fun x=>(cD x.val ao).b0
 have key:∀x y:Fin (m+1),iI l x.val y.val=true↔((l.getD y.val default).1*(l.getD x.val default).2<(l.getD x.val default).1*(l.getD y.val default).2∨(¬(l.getD x.val default).1*(l.getD y.val default).2<(l.getD y.val default).1*(l.getD x.val default).2∧x.val<y.val)):=fun x y=>by
  unfold iI;simp only[Bool.or_eq_true,Bool.and_eq_true,decide_eq_true_eq,jJ]
 refine⟨fun x=>?_,fun x y z h1 h2=>?_,fun x y z h1 h2=>?_⟩
 ·rw[Bool.eq_false_iff];intro h;rcases(key x x).1 h with h|h<;>omega
 ·have h1:=(key x y).1 h1;have h2:=(key y z).1 h2;refine(key x z).2 ?_;rcases h1 with h1|⟨h1,e1⟩<;>rcases h2 with h2|⟨h2,e2⟩
  ·exact .inl (Ac (b0 x) (b0 y) (b0 z) h1 h2)
  ·refine .inl (Int.not_le.1 fun h3=>?_);exact absurd (gr (b0 x) (b0 z) (b0 y) h3 (Int.not_lt.1 h2)) ao
  ·refine .inl (Int.not_le.1 fun h3=>?_);exact absurd (gr (b0 y) (b0 x) (b0 z) (Int.not_lt.1 h1) h3) ao
  ·exact .inr ⟨fun h3=>by
    have:=gr (b0 z) (b0 y) (b0 x) (Int.not_lt.1 h2) (Int.not_lt.1 h1);omega,ao⟩
 ·have n1:¬_:=fun h=>by rw[(key x y).2 h]at h1;cases h1
  have n2:¬_:=fun h=>by rw[(key y z).2 h]at h2;cases h2
  rw[Bool.eq_false_iff];intro h;have h3:=(key x z).1 h;have a1:=Int.not_lt.1 fun h=>n1 (.inl h)
  have a2:=Int.not_lt.1 fun h=>n2 (.inl h)
  have a3:=gr (b0 x) (b0 y) (b0 z) a1 a2;rcases h3 with h3|⟨h3,e3⟩
  ·omega
  ·by_cases c1:(l.getD x.val default).1*(l.getD y.val default).2<(l.getD y.val default).1*(l.getD x.val default).2
   ·refine h3 (Int.not_le.1 fun h4=>?_);exact absurd (gr (b0 y) (b0 z) (b0 x) a2 h4) ao
   ·by_cases c2:(l.getD y.val default).1*(l.getD z.val default).2<(l.getD z.val default).1*(l.getD y.val default).2
    ·refine h3 (Int.not_le.1 fun h4=>?_);exact absurd (gr (b0 z) (b0 x) (b0 y) h4 a1) ao
    ·have p1:¬x.val<y.val:=fun h=>n1 (.inr ⟨c1,h⟩)
     have p2:¬y.val<z.val:=fun h=>n2 (.inr ⟨c2,h⟩)
     omega
theorem Du {l:jR}(cD:kN l):∀i j,i<j→j<l.length→iI l ((bq l).getD i 0) ((bq l).getD j 0)=true:=by
 intro i j A0 hj
 cases h:l.length with
 |zero=>omega
 |succ m=>
  have hlen:=fG l;have VJ:=ks cD;have hsz:(Sort.insertionSort (fun(i k:Fin (m+1))=>iI l i.val k.val) (Array.ofFn fun i=>i) 0 (m+1)).size=m+1:=by
   have:=(Sort.insertionSort_holds (zv h cD) (Array.ofFn fun i=>i) 0 (m+1) (dT _) (by simp)).1.1;rw[this];simp
  have hs:=(Sort.insertionSort_holds (zv h cD) (Array.ofFn fun i=>i) 0 (m+1) (dT _) (by simp)).2 i j (dT _) A0 ao;rw[lD h,FU h]at hlen VJ ⊢;generalize Sort.insertionSort (fun(i k:Fin (m+1))=>iI l i.val k.val) (Array.ofFn fun i=>i) 0 (m+1)=A at *;have gi:∀p,p<m+1→(A.toList.map Fin.val).getD p 0=(A[p]!).val:=fun p hp=>by
   rw[List.getD_eq_getElem?_getD,List.getElem?_map,Array.getElem?_toList,Array.getElem?_eq_getElem ao,getElem!_pos A p ao];rfl
  rw[gi i ao,gi j ao];have hne:(A[i]!).val≠(A[j]!).val:=fun e=>by
   have h1:=List.pairwise_iff_getElem.1 VJ i j (by simp;omega) (by simp;omega) A0;simp only[List.getElem_map,Array.getElem_toList]at h1;rw[getElem!_pos A i ao,getElem!_pos A j ao]at e;exact h1 e
  generalize(A[i]!)=x at *;generalize(A[j]!)=y at *;have b0:∀x:Fin (m+1),0<(l.getD x.val default).2:=fun x=>(cD x.val ao).b0
  unfold iI at *;simp only[Bool.or_eq_false_iff,Bool.and_eq_false_iff,decide_eq_false_iff_not,Bool.or_eq_true,Bool.and_eq_true,decide_eq_true_eq]at hs ⊢;obtain⟨h1,h2⟩:=hs
  by_cases c:jH l x.val y.val<0
  ·exact .inl c
  ·refine .inr ⟨h1,?_⟩;rcases h2 with h2|h2
   ·exact absurd c h2
   ·omega
end
def aN (c:Nat→Int)(m:Int):Nat→Int
 |0=>min m (c 0)
 |1=>min (m - min m (c 0)) (c 1)
 |2=>min (m - min m (c 0) - min (m - min m (c 0)) (c 1)) (c 2)
 |_=>m - min m (c 0) - min (m - min m (c 0)) (c 1) - min (m - min m (c 0) - min (m - min m (c 0)) (c 1)) (c 2)
theorem Ny {c:Nat→Int}(h:∀x,x<3→0≤c x)(t:Nat)(ht:t<4):aN c 0 t=0:=by
 have h0:=h 0 ao;have h1:=h 1 ao;have h2:=h 2 ao;rcases(show t=0∨t=1∨t=2∨t=3 by omega)with rfl|rfl|rfl|rfl<;>(simp only[aN];omega)
theorem IX {c:Nat→Int}{m:Int}(hm:0≤m)(h:∀x,x<3→0≤c x):(∀t,t<3→0≤aN c m t∧aN c m t≤c t)∧0≤aN c m 3∧aN c m 3≤m∧∀t,t<4→aN c m t≤m:=by
 have h0:=h 0 ao;have h1:=h 1 ao;have h2:=h 2 ao;refine⟨fun t ht=>?_,?_,?_,fun t ht=>?_⟩
 ·rcases(show t=0∨t=1∨t=2 by omega)with rfl|rfl|rfl<;>(simp only[aN];omega)
 ·simp only[aN];omega
 ·simp only[aN];omega
 ·rcases(show t=0∨t=1∨t=2∨t=3 by omega)with rfl|rfl|rfl|rfl<;>(simp only[aN];omega)
theorem jr{P:Prop}(h:P:=by
 rcases(show u=0∨u=1∨u=2∨u=3 by omega)with rfl|rfl|rfl|rfl<;>(simp only[aN]at *;(first|rw[if_true]|rw[if_pos rfl]|rw[if_neg aD]);omega)):P:=h
theorem XY {c:Nat→Int}{m:Int}(hm:0≤m)(h:∀x,x<3→0≤c x){t:Nat}(ht:t<4)(h1:∀u,u<t→c u - aN c m u=0)(h2:t<3→c t - aN c m t≠0):∀u,u<4→aN c (m+1) u=aN c m u+if u=t then 1 else 0:=by
 have c0:=h 0 ao;have c1:=h 1 ao;have c2:=h 2 ao;intro u hu;rcases(show t=0∨t=1∨t=2∨t=3 by omega)with rfl|rfl|rfl|rfl
 ·have g:=h2 ao;exact jr
 ·have g:=h2 ao;have g0:=h1 0 ao;exact jr
 ·have g:=h2 ao;have g0:=h1 0 ao;have g1:=h1 1 ao;exact jr
 ·have g0:=h1 0 ao;have g1:=h1 1 ao;have g2:=h1 2 ao;exact jr
theorem S7 (l:List aS)(s:yC)(i:Nat):iJ l s i 3=fa i (fa i (fa i {s with left:=(l.getD i default).size} 0) 1) 2:=rfl
theorem PZ (l:List aS)(s:yC)(i:Nat){t:Nat}(ht:t<3):(ll l s i).c t=s.c t - aN s.c (l.getD i default).size t:=by
 rw[kU,S7];rcases(show t=0∨t=1∨t=2 by omega)with rfl|rfl|rfl<;>simp[fa,aN]
theorem Ez (l:List aS)(s:yC)(i r:Nat){t:Nat}(ht:t<4):(ll l s i).o r t=if r=i then aN s.c (l.getD i default).size t else s.o r t:=by
 rw[kU,S7]
 by_cases e:r=i
 ·subst e;rcases(show t=0∨t=1∨t=2∨t=3 by omega)with rfl|rfl|rfl|rfl<;>simp[fa,aN]
 ·rcases(show t=0∨t=1∨t=2∨t=3 by omega)with rfl|rfl|rfl|rfl<;>simp[fa,e]
theorem ze {n:Nat}{O O':Nat→Nat→Int}(h:∀r t,r<n→t<4→O r t=O' r t):od n O=od n O':=by
 unfold od
 congr 1
 funext i
 rw[h _ _ ao ao]
theorem XU {l:jR}(cD:kN l){k b:Nat}(hk:k<l.length)(hb:b<l.length)(h1:b∉(bq l).take k)(h2:∀j,j<l.length→j∉(bq l).take k→j=b∨iI l b j=true):b=(bq l).getD k 0:=by
 have hp:=Ab cD;have hlen:=fG l;have VJ:=ks cD;have Yk:b∈bq l:=hp.mem_iff.2 (List.mem_range.2 hb);obtain⟨q,hq,eq⟩:=List.getElem_of_mem Yk;have hqk:k≤q:=by
  rcases Nat.lt_or_ge q k with h|h
  ·exact absurd (by rw[←eq];exact List.mem_iff_getElem.2 ⟨q,by rw[List.length_take];omega,by rw[List.getElem_take]⟩) h1
  ·exact h
 have QN:k<(bq l).length:=ao;have oJ:(bq l)[k]∉(bq l).take k:=fun hm=>by
  obtain⟨p,JL,ep⟩:=List.getElem_of_mem hm;rw[List.getElem_take]at ep;have hpk:p<k:=by rw[List.length_take]at JL;omega
  exact List.pairwise_iff_getElem.1 VJ p k ao QN hpk ep
 have hgk:(bq l).getD k 0=(bq l)[k]:=by simp[QN]
 rw[hgk];rcases Nat.lt_or_ge k q with h|h
 ·have hs:=Du cD k q h ao;rw[hgk,show(bq l).getD q 0=b by simp[hq,eq]]at hs;have aY:(bq l)[k]<l.length:=mU l _ (List.getElem_mem _);rcases h2 _ aY oJ with e|e
  ·exact e.symm
  ·exfalso
   unfold iI at hs e;simp only[Bool.or_eq_true,Bool.and_eq_true,decide_eq_true_eq,jJ]at hs e;rcases hs with hs|hs<;>rcases e with e|e<;>omega
 ·obtain rfl:q=k:=ao;exact eq.symm
section
open Go.ChangeShapes Go.RowKit Go.WideShapes
def aec (l:List aS)(b:Int)(w:World)(i:Value)(wr:World):Prop:=∃k:Nat,k≤l.length∧i=ah k∧(∀j,j<k→Mh (l.getD j default) b=false)∧∃m,w.drewN m=wr
section
theorem lT{P:Prop}(h:P:=by
 go_enter Tryz.func139,Tryz.ntmps139
 go_wp2;go_ret;exact⟨rfl,rfl⟩):P:=h
theorem FL {a b c d:Int}(ha:0≤a∧a≤2147483647)(hb:0≤b∧b≤32)(hc:0≤c∧c≤2147483647)(hd:0≤d∧d≤32)(w:World):
 Calls Tryz.prog 139 #[ah a,ah b,ah c,ah d] w fun e w'=>e= .returned (ah (uQ (a*d) (c*b)))∧w=w':=by
 have h1:0≤a*d:=Int.mul_nonneg ha.1 hd.1;have h2:a*d≤2147483647*32:=Int.mul_le_mul ha.2 hd.2 hd.1 ao;have h3:0≤c*b:=Int.mul_nonneg hc.1 hb.1;have h4:c*b≤2147483647*32:=Int.mul_le_mul hc.2 hb.2 hb.1 ao;have e1:wrap64 (a*d)=a*d:=by unfold wrap64;omega
 have e2:wrap64 (c*b)=c*b:=by unfold wrap64;omega
 unfold uQ;clear ha hb hc hd h1 h2 h3 h4
 by_cases c1:a*d<c*b
 ·rw[if_pos c1];exact lT
 ·rw[if_neg c1]
  by_cases c2:c*b<a*d
  ·rw[if_pos c2];exact lT
  ·rw[if_neg c2];exact lT
theorem PL (l:jR)(i k:Nat):iI l i k=(decide (0<uQ ((l.getD i default).1*(l.getD k default).2) ((l.getD k default).1*(l.getD i default).2))||(decide (uQ ((l.getD i default).1*(l.getD k default).2) ((l.getD k default).1*(l.getD i default).2)=0)&&decide (i<k))):=by
 rw[Bool.eq_iff_iff];unfold iI;simp only[Bool.or_eq_true,Bool.and_eq_true,decide_eq_true_eq,jJ];generalize(l.getD i default).1*(l.getD k default).2=x;generalize(l.getD k default).1*(l.getD i default).2=y;unfold uQ
 by_cases c1:x<y
 ·rw[if_pos c1];simp;omega
 ·rw[if_neg c1]
  by_cases c2:y<x
  ·rw[if_pos c2];simp[c2]
  ·rw[if_neg c2];simp[c1,c2]
theorem LX {A:Option Addr}{n c:Nat}{blocks:Int}{l:List aS}{i k:Nat}(w:World)(h:aW w A n c l)(hP:dY blocks l)(hi:i<l.length)(hk:k<l.length):
 Calls Tryz.prog 116 #[.slice A n c,ah i,ah k] w fun e w'=>e= .returned (.bool (iI (bE l) i k))∧∃m,w.drewN m=w':=by
 obtain rfl:=h.len;have o1:=hP.1 i hi;have o2:=hP.1 k hk;unfold zA at o1 o2;rw[PL,uH l hi,uH l hk];dsimp only;obtain⟨g,o,rfl,hg,x0,x1,x2,x3⟩:=h.at_ i hi;obtain⟨g',o',e,hg',y0,y1,y2,y3⟩:=h.at_ k hk;injection e with e;injection e with e1 e2;subst e1 e2;have UC:(i:Int)<l.length:=ao;have pr:(k:Int)<l.length:=ao;have F2:=hP.2.2;generalize(l.getD i default).often=a at *;generalize(l.getD i default).size=b at *;generalize(l.getD k default).often=cc at *;generalize(l.getD k default).size=d at *;have HC:=ae<|fun m=>FL (a:=a) (b:=b) (c:=cc) (d:=d) ao ao ao ao (w.drewN m);generalize uQ (a*d) (cc*b)=z at *;clear h hP o1 o2 x0 x3 y0 y3 hi hk hg'
 go_enter Tryz.func116,Tryz.ntmps116
 go_upto_region 1 with fail
 go_quiet ((go_at_call 139;exact ki (HC _)))
 by_cases c1:0<z
 ·have c1b:decide (0<z)=true:=by simpa using c1
  go_wp2;go_ret;exact⟨rfl,_,rfl⟩
 ·have c1b:decide (0<z)=false:=by simpa using c1
  by_cases c2:z=0
  ·subst c2
   by_cases c3:i<k
   ·have c3i:(i:Int)<k:=ao;go_wp2;go_ret;exact⟨by simp[c3],_,rfl⟩
   ·have c3i:¬(i:Int)<k:=ao;go_wp2;go_ret;exact⟨by simp[c3],_,rfl⟩
  ·have c2b:(z==0)=false:=by simpa using c2
   go_wp2;go_ret;exact⟨by simp[c1,c2],_,rfl⟩
theorem rQ{P:Prop}(h:P:=by
 have Gy:=aB (∀j,j<k+1→Mh (l.getD j default) b=false) (fun j hj=>by
  by_cases e:j=k
  ·rw[e,HKI.out];simp;omega
  ·exact HN j ao)
 go_wp2_with fail
 go_quiet (fail)
 go_wp2
 go_roundw
 case rel=>exact⟨k+1,bL,by go_num,Gy,_,rfl⟩
 case measure=>simp[intOf];have:=bL.out;omega):P:=h
theorem ir {A:Option Addr}{n c:Nat}{blocks:Int}{l:List aS}(b:Int)(w:World)(h:aW w A n c l)(hP:dY blocks l)(hb:0≤b∧b<64):
 Calls Tryz.prog 84 #[.slice A n c,ah b] w fun e w'=>e= .returned (ah (fX l b))∧∃m,w.drewN m=w':=by
 obtain rfl:=h.len;have H:=ae h;have HP:=ae hP;have F2:=hP.2.2;clear h hP
 go_enter Tryz.func84,Tryz.ntmps84
 go_upto_region 2 with fail
 go_loopw [5] (fun i wr=>aec l b w i wr) (fun i _=>l.length - (intOf i).toNat)
 case atStart=>exact⟨0,dT _,rfl,fun j hj=>absurd hj ao,0,rfl⟩
 case round=>
  obtain⟨k,hk,rfl,iQ,m,rfl⟩:=hrel;have HN:=ae iQ;clear iQ
  by_cases aY:k<l.length
  ·obtain⟨g,o,rfl,hgl,x0,x1,x2,x3⟩:=H.at_ k aY;have cD:=HP.1 k aY;unfold zA at cD;have HKI:=aB (Mh (l.getD k default) b=(decide ((l.getD k default).fr≤b)&&decide (b<(l.getD k default).fr+(l.getD k default).size))) (rfl);have iV:(k:Int)<l.length:=ao;have bL:=ae aY;have HFD:=aB (fX l b=if Mh (l.getD k default) b=true then(k:Int)else fX l b) (by
    split
    ·rename_i h1
     unfold fX;rw[MS bL.out h1 HN.out,if_pos bL.out]
    ·rfl)
   clear x2 x3 hk aY;generalize(l.getD k default).fr=fr at *;generalize(l.getD k default).size=sz at *;have ew:IntKind.i64.wrap (b - fr)=b - fr:=by rw[IntKind.wrap_i64];omega
   by_cases c1:fr≤b
   ·have c1b:decide (fr≤b)=true:=by simpa using c1
    by_cases c2:b - fr<sz
    ·have c2b:decide (b - fr<sz)=true:=by simpa using c2
     go_wp2_with fail
     go_quiet (fail)
     go_wp2;go_ret;refine⟨?_,_,(World.drewN_drewN _ _ _).symm⟩;rw[HFD.out,if_pos (by rw[HKI.out];simp;omega)];rfl
    ·have c2b:decide (b - fr<sz)=false:=by simpa using c2
     exact rQ
   ·have c1b:decide (fr≤b)=false:=by simpa using c1
    exact rQ
  ·obtain rfl:k=l.length:=ao;clear aY hk;go_wp2;go_ret;exact⟨by rw[show fX l b= -1 from by unfold fX;rw[Iq HN.out,if_neg ao]];rfl,_,rfl⟩
end
def C5 (n:Nat)(f:Nat→Bool):Array Value:=Array.ofFn (n:=n) fun i=>.bool (f i.1)
theorem S3 (n:Nat)(f:Nat→Bool){i:Nat}(hi:i<n):(C5 n f)[i]? =some (.bool (f i)):=by
 unfold C5;rw[Array.getElem?_ofFn,dif_pos hi]
theorem XN (n:Nat)(f:Nat→Bool){i:Nat}(hi:i<n)(v:Bool):(C5 n f).setIfInBounds i (.bool v)=C5 n (fun x=>if x=i then v else f x):=by
 refine Array.ext (by simp[C5]) fun j h1 h2=>?_
 have hj:j<n:=by simpa [C5] using h2
 rw[Array.getElem_setIfInBounds (by simpa [C5] using hj)];simp only[C5,Array.getElem_ofFn]
 by_cases e:i=j
 ·subst e;simp
 ·rw[if_neg e,if_neg (fun h=>e h.symm)]
def lf4 (f:Nat→Int):List Value:=[ah (f 0),ah (f 1),ah (f 2),ah (f 3)]
theorem abI (f:Nat→Int){t:Nat}(ht:t<4):(lf4 f)[t]? =some (ah (f t)):=by
 rcases(show t=0∨t=1∨t=2∨t=3 by omega)with rfl|rfl|rfl|rfl<;>rfl
theorem Xp (f:Nat→Int){t:Nat}(ht:t<4)(v:Int):(lf4 f).set t (ah v)=lf4 (fun x=>if x=t then v else f x):=by
 rcases(show t=0∨t=1∨t=2∨t=3 by omega)with rfl|rfl|rfl|rfl<;>simp[lf4]
theorem zo {f g:Nat→Int}(h:∀t,t<4→f t=g t):lf4 f=lf4 g:=by
 unfold lf4;rw[h 0 ao,h 1 ao,h 2 ao,h 3 ao]
theorem B7 {l:List aS}{q:Nat→Int}{ord:List Nat}(hn:ord.Nodup):∀k r,r∉ord.take k→∀t,t<4→(gC l q ord k).o r t=0
 |0,r,_,t,_=>rfl
 |k+1,r,hr,t,ht=>by
  by_cases hk:k<ord.length
  ·rw[pR l q ord hk,Ez l _ _ r ht];rw[List.take_succ_eq_append_getElem hk]at hr;have h1:r∉ord.take k:=fun h=>hr (List.mem_append.2 (.inl h))
   have h2:r≠ord.getD k 0:=fun h=>hr (List.mem_append.2 (.inr (by simp[h,hk])))
   rw[if_neg h2];exact B7 hn k r h1 t ht
  ·have e:gC l q ord (k+1)=gC l q ord k:=by unfold gC;rw[List.take_of_length_le ao,List.take_of_length_le ao]
   rw[e];exact B7 hn k r (fun h=>hr (by rw[List.take_of_length_le ao]at h ⊢;exact h)) t ht
theorem Jv {l:jR}(cD:kN l){i k j:Nat}(hi:i<l.length)(hk:k<l.length)(hj:j<l.length)(h1:iI l i k=true)(h2:iI l k j=true):iI l i j=true:=by
 cases h:l.length with
 |zero=>omega
 |succ m=>exact(zv h cD).trans ⟨i,ao⟩ ⟨k,ao⟩ ⟨j,ao⟩ h1 h2
theorem Jw {l:jR}{i k:Nat}(hne:i≠k)(h:iI l i k=false):iI l k i=true:=by
 unfold iI at *;simp only[Bool.or_eq_false_iff,Bool.and_eq_false_iff,decide_eq_false_iff_not,Bool.or_eq_true,Bool.and_eq_true,decide_eq_true_eq,jJ]at *;omega
def Ter (a b c:Nat):Nat→Prop:=fun k=>k=a∨k=b∨k=c
structure Pq1 (l:List aS)(q:Nat→Int)(lb lc db ob:Nat)(k:Nat)(z:Int)(w wr:World):Prop where
 z0:1000 - 32*(k:Int)≤z
 z1:z≤1000
 lf:wr.ownsRow 0 3 1 (aU lb 4 lc) 4 (lf4 fun t=>if t<3 then(gC l q (bq (bE l)) k).c t else z)
 dn:Box wr db 4 (C5 l.length fun j=>decide (j∈(bq (bE l)).take k))
 ot:Box wr ob 3 (od l.length (gC l q (bq (bE l)) k).o)
 o:ag (Ter lb db ob) w wr
def ab6 (l:List aS)(q:Nat→Int)(lb lc db ob:Nat)(w:World)(i:Value)(wr:World):Prop:=∃(k:Nat) (z:Int),k≤l.length∧i=ah k∧Pq1 l q lb lc db ob k z w wr
def Ta (l:List aS)(k:Nat)(w:World)(bv i:Value)(wr:World):Prop:=
 ∃p:Nat,p≤l.length∧i=ah p∧((bv=ah (-1)∧∀j,j<p→j∈(bq (bE l)).take k)∨
  ∃b:Nat,bv=ah b∧b<p∧b∉(bq (bE l)).take k∧∀j,j<p→j∉(bq (bE l)).take k→j=b∨iI (bE l) b j=true)∧∃m,w.drewN m=wr
structure Pq3 (l:List aS)(s:yC)(b:Nat)(z:Int)(lb lc ob:Nat)(m:Nat)(w wr:World):Prop where
 lf:wr.ownsRow 0 3 1 (aU lb 4 lc) 4 (lf4 fun t=>(if t<3 then s.c t else z) - aN s.c m t)
 ot:Box wr ob 3 (od l.length fun r t=>if r=b then aN s.c m t else s.o r t)
 o:ag (Duo lb ob) w wr
def ab5 (l:List aS)(s:yC)(b:Nat)(z:Int)(lb lc ob N:Nat)(w:World)(i:Value)(wr:World):Prop:=∃m:Nat,m≤N∧i=ah m∧Pq3 l s b z lb lc ob m w wr
def ab4 (s:yC)(m:Nat)(w:World)(i:Value)(wr:World):Prop:=∃t:Nat,t≤3∧i=ah t∧(∀u,u<t→s.c u - aN s.c m u=0)∧wr=w
def Zd (l:List aS)(q:Nat→Int)(w:World)(e:Ending)(w':World):Prop:=
 ∃ob,e= .returned (aU ob (l.length*4) (l.length*4))∧Box w' ob 3 (od l.length (eW l q))∧w.heap.size≤ob∧ag az w w'
theorem abU:(Tryz.prog.info? 4).map (fun i=>(i.zero,i.size,i.bytes))=some (some (.bool false),1,1):=by kernel_rfl
theorem Xf (m:Nat):madeCells (Value.int .i64 0).cells (m*4*1)=od m (fun _ _=>0):=by
 refine Array.ext (by simp[madeCells,od]) fun j h1 h2=>?_
 simp[madeCells,od,Value.cells,Nat.mod_one]
theorem Xg (m:Nat):madeCells (Value.bool false).cells (m*1)=C5 m (fun _=>false):=by
 refine Array.ext (by simp[madeCells,C5]) fun j h1 h2=>?_
 simp[madeCells,C5,Value.cells,Nat.mod_one]
theorem I3 (m:Nat)(hm:m≤40)(w:World):(Instr.makeSlice 61 (ah (4*(m:Int))) (ah (4*(m:Int)))).run Tryz.prog w= .ok (aU w.heap.size (m*4) (m*4)) (w.alloc (.cells (od m (fun _ _=>0)) 3)):=by
 obtain⟨i,hi,hz,hs,hb⟩:=info_parts iD;have:=run_make (P:=Tryz.prog) w 61 3 i _ Tryz.underlying61 hi hz .i64 .i64 (4*(m:Int)) (4*(m:Int)) ao (Int.le_refl _) eO ao;rw[hs,show(4*(m:Int)).toNat=m*4 by omega]at this;rw[this,Xf]
theorem I4 (m:Nat)(hm:m≤40)(w:World):(Instr.makeSlice 204 (ah (m:Int)) (ah (m:Int))).run Tryz.prog w= .ok (aU w.heap.size m m) (w.alloc (.cells (C5 m (fun _=>false)) 4)):=by
 obtain⟨i,hi,hz,hs,hb⟩:=info_parts abU;have:=run_make (P:=Tryz.prog) w 204 4 i _ Tryz.underlying204 hi hz .i64 .i64 (m:Int) (m:Int) ao (Int.le_refl _) eO ao;rw[hs,show((m:Int)).toNat=m by omega]at this;rw[this,Xg]
section
theorem Cg {A:Option Addr}{n c:Nat}{blocks:Int}{l:List aS}{q:Nat→Int}(w:World)(bw:aW w A n c l)(hP:dY blocks l)(hq:∀t,t<3→0≤q t∧q t≤16):
 Calls Tryz.prog 85 #[.slice A n c,.agg (gB q)] w (Zd l q w):=by
 obtain rfl:=bw.len;have H:=ae bw;have HP:=ae hP;have HQ:=ae hq;have Gv:=ae<|zp hP;have F2:=hP.2.2;have HN8:=ae F2;clear bw hP hq
 go_enter Tryz.func85,Tryz.ntmps85
 go_upto_region 1 with fail;have HB:=ae<|Box.fresh w 22 (gB q);have HO:=ae<|(ag.aj az w).alloc (.cells (gB q) 22);change Code.wp _ _ _ _ (w.alloc (.cells (gB q) 22));generalize w.alloc (.cells (gB q) 22)=W at *;obtain⟨cb,fL⟩:∃cb,cb=w.heap.size:=⟨_,rfl⟩;rw[←fL]at HB ⊢;clear fL;have uW:=I3 l.length ao W;go_upto_region 2 with fail;have bf:=ae<|HO.alloc (.cells (od l.length (fun _ _=>0)) 3);have CT:=ae<|Box.fresh W 3 (od l.length (fun _ _=>0));have cO:=ae<|HB.alloc (.cells (od l.length (fun _ _=>0)) 3);have HWS:=aB (w.heap.size≤W.heap.size) (HO.size);change Code.wp _ _ _ _ (W.alloc (.cells (od l.length (fun _ _=>0)) 3));generalize W.alloc (.cells (od l.length (fun _ _=>0)) 3)=W2 at *;generalize W.heap.size=ob at *;clear uW;have uW:=I4 l.length ao W2;go_upto_region 3 with fail;have bn:=ae<|bf.alloc (.cells (C5 l.length (fun _=>false)) 4);have adl:=ae<|CT.alloc (.cells (C5 l.length (fun _=>false)) 4);have abh:=ae<|Box.fresh W2 4 (C5 l.length (fun _=>false));have dM:=ae<|cO.alloc (.cells (C5 l.length (fun _=>false)) 4);have JV:=aB (ob<W2.heap.size) (CT.lt);change Code.wp _ _ _ _ (W2.alloc (.cells (C5 l.length (fun _=>false)) 4));generalize W2.alloc (.cells (C5 l.length (fun _=>false)) 4)=W3 at *;generalize W2.heap.size=db at *;clear uW HB cO HO bf CT;have x0:aw W3 cb 0 (q 0):=dM.af rfl;have x1:aw W3 cb 1 (q 1):=dM.af rfl;have x2:aw W3 cb 2 (q 2):=dM.af rfl;have HDL:=aB (db<W3.heap.size) (abh.lt);obtain⟨i0,F4,yl,hs0,Gq⟩:=info_parts iD;have C9:=ae F4;have Yw:=ae yl;have ade:=ae hs0;have adK:=ae Gq;clear F4 yl hs0 Gq;have HCN:=ae<|cV W3 [ah (q 0),ah (q 1),ah (q 2),ah 1000] 3;go_upto_region 5 with(at_builtin;refine wpList_append_own_at _ rfl (.tmp 20) (.tmp 27) 61 rfl W3.heap.size 3 i0 _ 1 8 Tryz.underlying61 C9 Yw ade adK rfl aD aJ 0 [] rfl (World.ownsRow_nil _ _ _ _) ⟨W3.heap.size,0,none⟩ 4 4 [ah (q 0),ah (q 1),ah (q 2),ah 1000] rfl rfl HCN a6 gJ ao bh ?_;intro v' w4 h2 h3 h4 h5;have H2:=ae h2;have H3:=ae h3;clear h2 h3 h4 h5);have cI:ag az W3 w4:=((ag.aj az W3).alloc _).aC ((ag.aj _ _).grown (S:=az) H3 fun k hk=>(by cases hk)) fun _ hb=>hb.elim
 have h2:=H2.out;rw[List.nil_append]at h2;obtain⟨lb,lc,rfl,ye,aau,_⟩:=pW h2 ao;have HLF:=aB (w4.ownsRow 0 3 1 (aU lb 4 lc) 4 (lf4 fun t=>if t<3 then q t else 1000)) (by
  rcases h2 with⟨e1,⟨e2,_⟩|⟨g,cap,cur,e2,e3,e4⟩⟩
  ·cases e2
  ·exact⟨e1,.inr ⟨g,cap,cur,e2,dT _,e4⟩⟩)
 have MC:=ae<|cI.aq abh id;have HOT:=ae<|cI.aq adl id;have HW4:=ae<|bn.trans cI;have yu:=aB (ob≠db∧lb≠ob∧lb≠db∧w.heap.size≤ob∧w.heap.size≤db∧w.heap.size≤lb) (by
  have h1:=HWS.out;have h2:=JV.out;have h3:=HDL.out;exact⟨ao,ao,ao,ao,ao,ao⟩)
 clear cI h2 ye aau H2 H3 HCN x0 x1 x2 dM abh adl bn HWS JV HDL C9 Yw ade adK;go_upto_region 6 with fail
 go_loopw [8] (fun i wr=>ab6 l q lb lc db ob w4 i wr) (fun i _=>l.length - (intOf i).toNat)
 case atStart=>exact⟨0,1000,dT _,rfl,ao,ao,HLF,MC,HOT,ag.aj _ _⟩
 case round=>
  clear HLF MC HOT;obtain⟨k,z,hk,rfl,hI⟩:=hrel;have HI:=ae hI;clear hI
  by_cases aY:k<l.length
  ·have iV:(k:Int)<l.length:=ao;have bL:=ae aY;clear aY hk;go_upto_region 10 with fail
   go_loopw [9,10] (fun bv i wx=>Ta l k wr bv i wx) (fun _ i _=>l.length - (intOf i).toNat)
   case atStart=>exact⟨0,dT _,rfl,.inl ⟨rfl,fun j hj=>absurd hj ao⟩,0,rfl⟩
   case round=>
    obtain⟨p,hp,rfl,hbv,m,rfl⟩:=hrel;have HBV:=ae hbv;clear hbv
    by_cases VF:p<l.length
    ·have hpi:(p:Int)<l.length:=ao;have ui:=ae VF;have xd:aE (wr.drewN m) db p (.bool (decide (p∈(bq (bE l)).take k))):=(HI.dn.drewN m).af (S3 _ _ VF);clear VF hp
     by_cases zT:p∈(bq (bE l)).take k
     ·rw[decide_eq_true zT]at xd;have MC:=ae zT;clear zT;have Gw:=aB (Ta l k wr u9 (ah ((p:Int)+1)) (wr.drewN m)) (⟨p+1,ui,by go_num,by
       rcases HBV.out with⟨e,h⟩|⟨b,e,h1,h2,h3⟩
       ·exact .inl ⟨e,fun j hj=>by
         by_cases e2:j=p
         ·rw[e2];exact MC
         ·exact h j ao⟩
       ·exact .inr ⟨b,e,ao,h2,fun j hj NJ=>by
         by_cases e2:j=p
         ·exact absurd (e2▸MC.out) NJ
         ·exact h3 j ao NJ⟩,m,rfl⟩)
      go_wp2
      go_roundw
      case rel=>exact Gw
      case measure=>simp[intOf];have:=ui.out;omega
     ·rw[decide_eq_false zT]at xd;have MC:=ae zT;clear zT;rcases HBV.out with⟨rfl,h⟩|⟨b,rfl,h1,h2,h3⟩
      ·have HH:=ae h;clear h HBV;go_wp2
       go_roundw
       case rel=>exact⟨p+1,ui,by go_num,.inr ⟨p,rfl,ao,MC,fun j hj NJ=>by
        by_cases e2:j=p
        ·exact .inl e2
        ·exact absurd (HH j ao) NJ⟩,m,rfl⟩
       case measure=>simp[intOf];have:=ui.out;omega
      ·have Bc:b<l.length:=by have:=ui.out;omega
       have JW:=ae (LX (i:=p) (k:=b) (wr.drewN m) ((H.keep HW4).mH (HI.o.drewN m) fun h0 j hj hS=>by
        have hh:=H.at_ 0 h0;obtain⟨g,o,e,hg,_⟩:=hh;rw[e]at hj;have e2:=aG.1 hj;have hne:=yu.out;rcases hS with hS|hS|hS<;>omega) HP ui Bc)
       have bU:=ae h1;have cO:=ae h2;have dM:=ae h3;have Km:=ae Bc;have HPB:=ae (show p≠b by omega);have Gq:¬(b:Int)<0:=ao;clear h1 h2 h3 Bc HBV
       cases hdb:iI (bE l) p b with
       |true=>
        rw[hdb]at JW;have Vw:=ae hdb;clear hdb;go_wp2_with (go_at_call 116;refine JW.mono ?_;rintro e W5 ⟨rfl,m2,rfl⟩)
        go_roundw
        case rel=>
         iterate 24 apply Exists.intro
         refine⟨?_,rfl⟩;exact⟨p+1,ui,by go_num,.inr ⟨p,rfl,ao,MC,fun j hj NJ=>by
          by_cases e2:j=p
          ·exact .inl e2
          ·refine .inr ?_;have J5:j<(bE l).length:=by rw[cr];have:=ui.out;omega
           rcases dM j ao NJ with e3|e3
           ·rw[e3];exact Vw
           ·exact Jv Gv (by rw[cr];exact ui) (by rw[cr];exact Km) J5 Vw e3⟩,_,rfl⟩
        case measure=>simp[intOf];have:=ui.out;omega
       |false=>
        rw[hdb]at JW;have Vw:=ae hdb;clear hdb;go_wp2_with (go_at_call 116;refine JW.mono ?_;rintro e W5 ⟨rfl,m2,rfl⟩)
        go_roundw
        case rel=>
         iterate 24 apply Exists.intro
         refine⟨?_,rfl⟩;exact⟨p+1,ui,by go_num,.inr ⟨b,rfl,by have:=bU.out;omega,cO,fun j hj NJ=>by
          by_cases e2:j=p
          ·rw[e2];exact .inr (Jw HPB Vw)
          ·exact dM j ao NJ⟩,_,rfl⟩
        case measure=>simp[intOf];have:=ui.out;omega
    ·obtain rfl:p=l.length:=ao;clear VF hp;have HBE:∃b:Nat,u9=ah b∧b<l.length∧b=(bq (bE l)).getD k 0∧b∉(bq (bE l)).take k:=by
      have hlen:=cr l;rcases HBV.out with⟨e,h⟩|⟨b,e,h1,h2,h3⟩
      ·exfalso
       have QN:k<(bq (bE l)).length:=by rw[fG,hlen];exact bL
       have hx:=h (bq (bE l))[k] (by rw[←hlen];exact mU _ _ (List.getElem_mem _));obtain⟨r,hr,er⟩:=List.getElem_of_mem hx;rw[List.getElem_take]at er;have hrk:r<k:=by rw[List.length_take]at hr;omega
       exact List.pairwise_iff_getElem.1 (ks Gv) r k ao QN hrk er
      ·exact⟨b,e,h1,XU Gv (by rw[hlen];exact bL) (by rw[hlen];exact h1) h2 (fun j hj NJ=>h3 j (by rw[←hlen];exact hj) NJ),h2⟩
     obtain⟨b,rfl,Bc,hbe,QT⟩:=HBE;clear HBV;go_upto_region 14 with fail;have agb:=ae<|(HI.dn.drewN m).store b (.bool true);have hdf:=(HI.dn.drewN m).free b;have Va:aE (wr.drewN m) db b (.bool (decide (b∈(bq (bE l)).take k))):=(HI.dn.drewN m).af (S3 _ _ Bc);have UE:(b:Int)<l.length:=ao;have Km:=ae Bc;have HBE:=ae hbe;have Vx:=ae QT;have hne:=yu.out;have af2:=ae (show((wr.drewN m).setCell ⟨db,b,none⟩ (.bool true)).ownsRow 0 3 1 (aU lb 4 lc) 4 (lf4 fun t=>if t<3 then(gC l q (bq (bE l)) k).c t else z)from
      bk (S:=ar db) (show(wr.drewN m).ownsRow 0 3 1 (aU lb 4 lc) 4 _ from HI.lf) ((ag.aj (ar db) _).setCell (p:=⟨db,b,none⟩) (.inl (show ar db db from rfl)) _) fun g hg e=>by
       have h1:=aG.1 hg;have h2:g=db:=e;omega)
     have afO:=ae<|(HI.ot.drewN m).mH (p:=⟨db,b,none⟩) hne.1 (.bool true);have bM:=ae<|(HI.o.drewN m).setCell (p:=⟨db,b,none⟩) (.inl (.inr (.inl rfl))) (.bool true);clear QT hbe Bc hne;go_upto_region 15 with fail;change Code.wp _ _ _ _ ((wr.drewN m).setCell ⟨db,b,none⟩ (.bool true));clear hdf Va;generalize(wr.drewN m).setCell ⟨db,b,none⟩ (.bool true)=W5 at *;have hh:=(H.keep HW4).mH bM fun h0 j hj hS=>by
      obtain⟨g,o,e,hg,_⟩:=H.at_ 0 h0;rw[e]at hj;have e2:=aG.1 hj;have hne:=yu.out;rcases hS with hS|hS|hS<;>omega
     have MA:=ae hh;obtain⟨g,o,rfl,hg,_,xs,_⟩:=hh.at_ b Km;have HGN:=aB (¬Duo lb ob g) (fun hS=>by
      obtain⟨g',o',e,hg',_⟩:=H.at_ 0 (by have:=Km.out;omega);injection e with e;injection e with e;have hne:=yu.out;rcases hS with hS|hS<;>omega)
     have cD:=HP.1 b Km;unfold zA at cD;have ME:=ae<|xX HP HQ (fun x hx=>by have:=mU (bE l) x hx;rwa [cr]at this) k;have HZO:=ae<|B7 (q:=q) (l:=l) (ks Gv) k b Vx;have HSU:=ae<|pR l q (bq (bE l)) (k:=k) (by rw[fG,cr];exact bL);rw[←HBE.out]at HSU;have HAC:=ae<|fun(t:Nat) (ht:t<3)=>PZ l (gC l q (bq (bE l)) k) b ht;have HAO:=ae<|fun(r t:Nat) (ht:t<4)=>Ez l (gC l q (bq (bE l)) k) b r ht;generalize hsz:(l.getD b default).size=sz at *;have HZZ:=aB (1000 - 32*(k:Int)≤z∧z≤1000) (⟨HI.z0,HI.z1⟩);generalize hps:gC l q (bq (bE l)) k=s at *;obtain⟨N,rfl⟩:=Int.eq_ofNat_of_zero_le (show 0≤sz by omega);have afW:=ae (show N≤32 by omega);have agC:=afW.out;clear hh cD hsz hps hg HI;go_upto_region 16 with fail
     go_loopw [11] (fun i wx=>ab5 l s b z lb lc ob N W5 i wx) (fun i _=>N - (intOf i).toNat)
     case atStart=>
      refine⟨0,dT _,rfl,?_,?_,ag.aj _ _⟩
      ·have h1:=af2.out;rw[zo (fun t ht=>by rw[show((0:Nat):Int)=0 from rfl,Ny (fun x hx=>(ME.out x hx).1) t ht];omega) (g:=fun t=>if t<3 then s.c t else z)];exact h1
      ·have h1:=afO.out;rw[ze (O':=s.o) (fun r t hr ht=>by
        by_cases e:r=b
        ·rw[if_pos e,e,show((0:Nat):Int)=0 from rfl,Ny (fun x hx=>(ME.out x hx).1) t ht,HZO.out t ht]
        ·rw[if_neg e])]
       exact h1
     case round=>
      obtain⟨m3,CZ,rfl,hI3⟩:=hrel;have AG:=ae hI3;clear hI3;have xs3:=AG.o.cell xs HGN
      by_cases J4:m3<N
      ·have hmi:(m3:Int)<N:=ao;have EW:=ae J4;have HBD:=ae<|IX (m:=(m3:Int)) (c:=s.c) ao (fun x hx=>(ME x hx).1);clear J4 CZ;go_upto_region 19 with fail
       go_loopw [12] (fun i wx=>ab4 s m3 wr i wx) (fun i _=>3 - (intOf i).toNat)
       case atStart=>exact⟨0,ao,rfl,fun u hu=>absurd hu ao,rfl⟩
       case round=>
        obtain⟨t,ht,rfl,hz,rfl⟩:=hrel;have HZ:=ae hz;clear hz;have xv:=AG.lf.cellAt t ao;rw[abI _ (show t<4 by omega)]at xv
        by_cases uM:(if t<3 then s.c t else z) - aN s.c m3 t=0
        ·have F0:t<3:=by
          rcases Nat.lt_or_ge t 3 with h|h
          ·exact h
          ·exfalso
           obtain rfl:t=3:=ao;rw[if_neg ao]at uM;have h1:=HBD.2.2.1;have h2:=HZZ.out;have:=bL.out;omega
         have Yv:=aB (∀u,u<t+1→s.c u - aN s.c m3 u=0) (fun u hu=>by
          by_cases e:u=t
          ·rw[e];rw[if_pos F0]at uM;exact uM
          ·exact HZ u ao)
         rw[uM]at xv;have hti:(t:Int)<4:=ao;have Gs:=ae F0;clear uM F0 ht;go_wp2
         go_roundw
         case rel=>exact⟨t+1,Gs,by go_num,Yv,rfl⟩
         case measure=>simp[intOf];have:=Gs.out;omega
        ·have HSC:=ae<|XY (m:=(m3:Int)) (c:=s.c) ao (fun x hx=>(ME x hx).1) (show t<4 by omega) HZ (fun h3=>by rw[if_pos h3]at uM;exact uM);have hti:(t:Int)<4:=ao;have Gs:=ae ht;have xf:=AG.lf.frozenAt t;have yv:=AG.ot.af (yP l.length (fun r t=>if r=b then aN s.c m3 t else s.o r t) Km (show t<4 by omega));rw[if_pos rfl]at yv;have yf:=AG.ot.free (b*4+t);have EJ:0≤(if t<3 then s.c t else z)∧(if t<3 then s.c t else z)≤1000:=by
          split
          ·have:=ME.out t ao;omega
          ·have:=HZZ.out;have:=bL.out;omega
         have ic:0≤aN s.c m3 t∧aN s.c m3 t≤32:=by
          have h1:=HBD.out;refine⟨?_,by have:=h1.2.2.2 t ao;omega⟩
          by_cases e:t<3
          ·exact(h1.1 t e).1
          ·obtain rfl:t=3:=ao;exact h1.2.1
         have eix:(4*(b:Int)+(t:Int)).toNat=b*4+t:=ao;have hix:4*(b:Int)+(t:Int)<l.length*4:=by have:=Km.out;omega
         have afh:0≤4*(b:Int)+(t:Int):=ao;have hne:=yu.2.1;have Kv:¬ob=lb:=fun e=>hne e.symm
         have HSB:=ae<|AG.ot.store (b*4+t) (ah (aN s.c m3 t+1));have HV0:=ae uM;generalize Qe:(if t<3 then s.c t else z) - aN s.c m3 t=v at *;generalize haa:aN s.c m3 t=av at *;have HVV:=ae Qe;have HAA:=ae haa;have Zx: -32≤v∧v≤1000:=ao;clear Qe haa ht;have agx:(v==0)=false:=by simpa using uM
         clear uM EJ;go_wp2
         go_roundw
         case rel=>
          refine⟨m3+1,EW,by go_num,?_,?_,?_⟩
          ·have h1:=(AG.lf.stored t (ah (v - 1))).1;rw[Xp _ (show t<4 by have:=Gs.out;omega),zo (g:=fun x=>(if x<3 then s.c x else z) - aN s.c ((m3+1:Nat):Int) x) (fun x hx=>by
            have h2:=HSC.out x hx;have h3:=HVV.out;have h4:=HAA.out;rw[show((m3+1:Nat):Int)=(m3:Int)+1 by omega,h2]
            by_cases e:x=t
            ·subst e;rw[if_pos rfl,if_pos rfl,h4];omega
            ·rw[if_neg e,if_neg e];omega)]at h1
           exact bk (S:=ar ob) h1 ((ag.aj (ar ob) _).setCell (p:=⟨ob,b*4+t,none⟩) (.inl (show ar ob ob from rfl)) _) fun g hg e=>by
            have h5:=aG.1 hg;have h6:g=ob:=e;omega
          ·have h1:=(AG.ot.mH (p:=⟨lb,t,none⟩) Kv (ah (v - 1))).store (b*4+t) (ah (av+1));rw[Fx l.length _ Km.out (show t<4 by have:=Gs.out;omega),ze (O':=fun r x=>if r=b then aN s.c ((m3+1:Nat):Int) x else s.o r x) (fun r x hr hx=>by
            have h2:=HSC.out x hx;rw[show((m3+1:Nat):Int)=(m3:Int)+1 by omega,h2]
            by_cases e:r=b
            ·rw[if_pos e,if_pos e]
             by_cases e2:x=t
             ·rw[if_pos ⟨e,e2⟩,if_pos e2,e2,HAA.out]
             ·rw[if_neg (fun h=>e2 h.2),if_neg e2];omega
            ·rw[if_neg (fun h=>e h.1),if_neg e,if_neg e])]at h1
           exact h1
          ·exact(AG.o.setCell (p:=⟨lb,t,none⟩) (.inl (.inl rfl)) _).setCell (p:=⟨ob,b*4+t,none⟩) (.inl (.inr rfl)) _
         case measure=>simp[intOf];have:=EW.out;omega
      ·obtain rfl:m3=N:=ao;clear J4 CZ;go_wp2
       go_roundw
       case rel=>
        have hbd:=IX (m:=(m3:Int)) (c:=s.c) ao (fun x hx=>(ME x hx).1);have J0:=HZZ.out;refine⟨k+1,z - aN s.c m3 3,bL,by go_num,?_,?_,?_,?_,?_,?_⟩
        ·have:=hbd.2.2.1;omega
        ·have:=hbd.2.1;omega
        ·rw[HSU.out];have h1:=AG.lf;rw[zo (g:=fun t=>if t<3 then(ll l s b).c t else z - aN s.c m3 3) (fun t ht=>by
          by_cases e:t<3
          ·rw[if_pos e,if_pos e,HAC.out t e]
          ·obtain rfl:t=3:=ao;rw[if_neg e,if_neg e])]at h1
         exact h1
        ·have h1:=agb.out;rw[XN _ _ Km.out]at h1;have hd:(C5 l.length fun x=>if x=b then true else decide (x∈(bq (bE l)).take k))=C5 l.length fun x=>decide (x∈(bq (bE l)).take (k+1)):=by
          congr 1
          funext x
          rw[List.take_succ_eq_append_getElem (by rw[fG,cr];exact bL.out)];have hb:(bq (bE l))[k]'(by rw[fG,cr];exact bL)=b:=by
           rw[HBE.out];simp[show k<(bq (bE l)).length by rw[fG,cr];exact bL.out]
          rw[hb]
          by_cases e:x=b
          ·rw[if_pos e];simp[e]
          ·rw[if_neg e];simp[e]
         rw[hd]at h1;exact AG.o.aq h1 fun e=>by
          have hne:=yu.out;rcases e with e|e<;>omega
        ·rw[HSU.out];have h1:=AG.ot;rw[ze (O':=(ll l s b).o) (fun r t hr ht=>(HAO.out r t ht).symm)]at h1;exact h1
        ·exact bM.aC AG.o fun j hj=>.inl (by
          rcases hj with e|e
          ·exact .inl e
          ·exact .inr (.inr e))
       case measure=>simp[intOf];have:=bL.out;omega
  ·obtain rfl:k=l.length:=ao;clear aY hk;go_wp2;go_ret;have hne:=yu.out;refine⟨ob,rfl,?_,hne.2.2.2.1,HW4.aC HI.o fun j hj=>.inr (by rcases hj with e|e|e<;>omega)⟩;have e:gC l q (bq (bE l)) l.length=Hq l q (bq (bE l)):=by
    exact qy
   have h1:=HI.ot;rw[e]at h1;exact h1
end
def IsT (p:Nat→Int)(a:Nat)(T:Int):Prop:=
 (∃t:Nat,a≤t∧t<3∧0<p t∧(∀u,a≤u→u<t→¬0<p u)∧T=t+1)∨((∀u,a≤u→u<3→¬0<p u)∧T=4)
theorem IsT.unique {p:Nat→Int}{a:Nat}{T T':Int}(h:IsT p a T)(h':IsT p a T'):T=T':=by
 rcases h with⟨t,h1,h2,h3,h4,rfl⟩|⟨h1,rfl⟩<;>rcases h' with⟨t',g1,g2,g3,g4,rfl⟩|⟨g1,rfl⟩
 ·rcases Nat.lt_trichotomy t t' with h|h|h
  ·exact absurd h3 (g4 t h1 h)
  ·rw[h]
  ·exact absurd g3 (h4 t' g1 h)
 ·exact absurd h3 (g1 t h1 h2)
 ·exact absurd g3 (h1 t' g1 g2)
 ·rfl
def vN (c:aM)(b a:Int):Prop:=a<0∨2<a∨b<0∨c.f 2≤b
def oQ (c:aM)(b a T:Int):Prop:=
 (vN c b a∧T=4)∨(¬vN c b a∧c.f 5≠2∧T=a+1)∨(¬vN c b a∧c.f 5=2∧IsT (bO c.h (eW c.h (dV c)) b) a.toNat T)
theorem oQ.unique {c:aM}{b a T T':Int}(h:oQ c b a T)(h':oQ c b a T'):T=T':=by
 rcases h with⟨h1,rfl⟩|⟨h1,h2,rfl⟩|⟨h1,h2,h3⟩<;>rcases h' with⟨g1,rfl⟩|⟨g1,g2,rfl⟩|⟨g1,g2,g3⟩
 ·rfl
 ·exact absurd h1 g1
 ·exact absurd h1 g1
 ·exact absurd g1 h1
 ·rfl
 ·exact absurd g2 h2
 ·exact absurd g1 h1
 ·exact absurd h2 g2
 ·exact h3.unique g3
def aea (p:Nat→Int)(a:Nat)(w:World)(i:Value)(wr:World):Prop:=∃t:Nat,a≤t∧t≤3∧i=ah ((t+1:Nat):Int)∧(∀u,a≤u→u<t→¬0<p u)∧ag az w wr
def S9 (p:Nat→Int)(a:Nat)(w:World)(i:Value)(wr:World):Prop:=∃t:Nat,a≤t∧t≤3∧i=ah t∧(∀u,a≤u→u<t→¬0<p u)∧w=wr
def TgP (c:aM)(b a:Int)(w:World)(e:Ending)(w':World):Prop:=∃T,e= .returned (ah T)∧oQ c b a T∧ag az w w'
section
theorem rW{P:Prop}(h:P:=by
 have h5b:(c.f 5 != 2)=true:=by simpa using h5
 have UK:=ae<|NR Bg h5;clear h5;go_wp2;go_ret;exact⟨a+1,rfl,UK,HO⟩):P:=h
theorem K5 {c:aM}(hP:cK c){A:Option Addr}{n cp:Nat}(b a:Int)(w:World)(bw:aW w A n cp c.h):
 Calls Tryz.prog 72 #[.agg (ak c (.slice A n cp)),ah b,ah a] w (TgP c b a w):=by
 have HB:=ae<|Box.fresh w 25 (ak c (.slice A n cp));have HO:=ae<|(ag.aj az w).alloc (.cells (ak c (.slice A n cp)) 25);have kx:=ae<|bw.keep HO;have lK:=ae hP;clear bw hP
 go_enter Tryz.func72,Tryz.ntmps72
 go_upto_region 1 with fail;change Code.wp _ _ _ _ (w.alloc (.cells (ak c (.slice A n cp)) 25));generalize w.alloc (.cells (ak c (.slice A n cp)) 25)=W at *;obtain⟨cb,fL⟩:∃cb,cb=w.heap.size:=⟨_,rfl⟩;rw[←fL]at HB ⊢;clear fL;have c2:aw W cb 2 (c.f 2):=HB.af (aL c _ aD);have c5:aw W cb 5 (c.f 5):=HB.af (aL c _ aD);have Mr:aE W cb 16 (.slice A n cp):=HB.af (fA c _);have c9:aw W cb 9 (c.f 9):=HB.af (aL c _ aD);have Vl:aw W cb 10 (c.f 10):=HB.af (aL c _ aD);have Z2:aw W cb 11 (c.f 11):=HB.af (aL c _ aD);have oH:Hid (Calls Tryz.prog 99 #[.slice A n cp,ah (c.f 2),.agg #[ah (c.f 9),ah (c.f 10),ah (c.f 11)]] W (aaT (c.f 2) (dV c) c.h W)):=ae<|Eh (q:=dV c) W kx lK.hs lK.p2 fun t ht=>lK.pc t ht;have BB:=aB (vN c b a↔(a<0∨2<a∨b<0∨c.f 2≤b)) (Iff.rfl);have Qt:=aB (vN c b a→oQ c b a 4) (fun h=>.inl ⟨h,rfl⟩);have NR:=aB (¬vN c b a→c.f 5≠2→oQ c b a (a+1)) (fun h h2=>.inr (.inl ⟨h,h2,rfl⟩));have HT2:=aB (¬vN c b a→c.f 5=2→∀T,IsT (bO c.h (eW c.h (dV c)) b) a.toNat T→oQ c b a T) (fun h h2 T h3=>.inr (.inr ⟨h,h2,h3⟩));have U8:=lK.p2;generalize c.f 2=f2 at *;clear kx HB
 by_cases a1:a<0
 ·go_wp2;go_ret;exact⟨4,rfl,Qt (BB.2 (.inl a1)),HO⟩
 ·by_cases a2:2<a
  ·go_wp2;go_ret;exact⟨4,rfl,Qt (BB.2 (.inr (.inl a2))),HO⟩
  ·by_cases b1:b<0
   ·go_wp2;go_ret;exact⟨4,rfl,Qt (BB.2 (.inr (.inr (.inl b1)))),HO⟩
   ·by_cases b2:f2≤b
    ·go_wp2;go_ret;exact⟨4,rfl,Qt (BB.2 (.inr (.inr (.inr b2)))),HO⟩
    ·have Bg:=aB (¬vN c b a) (fun h=>by rcases BB.1 h with h|h|h|h<;>contradiction)
     by_cases h5:c.f 5=2
     ·rw[h5]at c5;have RK:=ae<|HT2 Bg h5;clear h5;obtain⟨m,rfl⟩:=Int.eq_ofNat_of_zero_le (show 0≤a by omega);have CZ:m≤2:=ao;go_upto_region 6 with(go_at_call 99;refine oH.mono ?_;rintro e W2 ⟨i,rfl,h1,h2,h3⟩;have H1:=ae h1;have H3:=ae h3;clear h1 h2 h3);clear c2 c5 Mr c9 Vl Z2 oH;go_upto_region 7 with fail
      go_loopw [9] (fun v wr=>aea (bO c.h (eW c.h (dV c)) b) m W2 v wr) (fun v _=>4 - (intOf v).toNat)
      case atStart=>exact⟨m,dm _,ao,by go_num,fun u h1 h2=>absurd h2 ao,ag.aj _ _⟩
      case round=>
       obtain⟨t,J3,ht,rfl,iQ,ho⟩:=hrel;have HN:=ae iQ;have Q8:=ae ho;clear iQ ho
       by_cases F0:t<3
       ·have HP:=ae<|xF b F0 wr (H1.keep Q8);have Gs:=ae F0;obtain⟨tt,htt⟩:∃tt:Nat,tt=t+1:=⟨_,rfl⟩;have agy:(tt:Int)<4:=ao;have C7:=ae htt;rw[←htt]at HP ⊢;clear F0 ht htt
        by_cases hp:0<bO c.h (eW c.h (dV c)) b t
        ·have HPV:=ae hp;generalize U4:bO c.h (eW c.h (dV c)) b t=pv at *;have HPE:=ae U4;clear U4;go_wp2_with (go_at_call 103;refine HP.mono ?_;rintro e W3 ⟨rfl,cB⟩);go_ret;refine⟨tt,rfl,RK _ ?_,((HO.trans H3).trans Q8).trans cB.aA⟩;rw[Int.toNat_natCast];exact .inl ⟨t,J3,Gs,by rw[HPE.out];exact HPV,fun u h1 h2=>by have:=HN.out u h1 h2;omega,by have:=C7.out;omega⟩
        ·have HPV:=ae hp;have Gy:=aB (∀u,m≤u→u<t+1→¬0<bO c.h (eW c.h (dV c)) b u) (fun u h1 h2=>by
          by_cases e:u=t
          ·rw[e];exact HPV
          ·have:=HN.out u h1 ao;omega)
         generalize U4:bO c.h (eW c.h (dV c)) b t=pv at *;have HPE:=ae U4;clear U4;go_wp2_with (go_at_call 103;refine HP.mono ?_;rintro e W3 ⟨rfl,cB⟩)
         go_roundw
         case rel=>exact⟨t+1,ao,Gs,by have:=C7.out;subst this;go_num,fun u h1 h2=>by have:=Gy.out u h1 h2;omega,Q8.trans cB.aA⟩
         case measure=>simp[intOf];omega
       ·obtain rfl:t=3:=ao;clear F0 ht;go_wp2;go_ret;refine⟨4,rfl,RK _ ?_,(HO.trans H3).trans Q8⟩;rw[Int.toNat_natCast];exact .inr ⟨fun u h1 h2=>by have:=HN.out u h1 h2;omega,rfl⟩
     ·exact rW
theorem sn{P:Prop}(h:P:=by
 obtain rfl:t=3:=ao;clear F0 ht;go_wp2;go_ret;refine⟨4,rfl,RK _ ?_,bn⟩;rw[Int.toNat_natCast];exact .inr ⟨fun u h1 h2=>by have:=HN.out u h1 h2;omega,rfl⟩):P:=h
theorem I7 {c:aM}(hP:cK c){A:Option Addr}{n cp:Nat}(b a:Int)(w:World)(bw:aW w A n cp c.h):
 Calls Tryz.prog 46 #[.agg (ak c (.slice A n cp)),ah b,ah a] w (TgP c b a w):=by
 have HB:=ae<|Box.fresh w 25 (ak c (.slice A n cp));have HO:=ae<|(ag.aj az w).alloc (.cells (ak c (.slice A n cp)) 25);have kx:=ae<|bw.keep HO;have lK:=ae hP;clear bw hP
 go_enter Tryz.func46,Tryz.ntmps46
 go_upto_region 1 with fail;change Code.wp _ _ _ _ (w.alloc (.cells (ak c (.slice A n cp)) 25));generalize w.alloc (.cells (ak c (.slice A n cp)) 25)=W at *;obtain⟨cb,fL⟩:∃cb,cb=w.heap.size:=⟨_,rfl⟩;rw[←fL]at HB ⊢;clear fL;have c2:aw W cb 2 (c.f 2):=HB.af (aL c _ aD);have c5:aw W cb 5 (c.f 5):=HB.af (aL c _ aD);have Mr:aE W cb 16 (.slice A n cp):=HB.af (fA c _);have HPR:Hid (∀m,Calls Tryz.prog 85 #[.slice A n cp,.agg #[ah (c.f 9),ah (c.f 10),ah (c.f 11)]] (W.drewN m) (Zd c.h (dV c) (W.drewN m))):=ae fun m=>Cg (q:=dV c) (W.drewN m) (kx.keep ((ag.aj az W).drewN m)) lK.hs fun t ht=>by have h:1≤dV c t∧dV c t≤16:=lK.pc t ht;omega
 have HC:=ae<|fun(m i:Nat) (hi:i<16)=>(HB.drewN m).af (aL c (.slice A n cp) hi);have agd:=ae<|fun m=>(HB.drewN m).af (fA c (.slice A n cp));have BB:=aB (vN c b a↔(a<0∨2<a∨b<0∨c.f 2≤b)) (Iff.rfl);have Qt:=aB (vN c b a→oQ c b a 4) (fun h=>.inl ⟨h,rfl⟩);have NR:=aB (¬vN c b a→c.f 5≠2→oQ c b a (a+1)) (fun h h2=>.inr (.inl ⟨h,h2,rfl⟩));have HT2:=aB (¬vN c b a→c.f 5=2→∀T,IsT (bO c.h (eW c.h (dV c)) b) a.toNat T→oQ c b a T) (fun h h2 T h3=>.inr (.inr ⟨h,h2,h3⟩));have tx:=ae<|fun(h:0≤b∧b<64)=>ir b W kx lK.hs h;have U8:=lK.p2;have F2:=lK.hs.2.2;generalize c.f 2=f2 at *;clear kx HB
 by_cases a1:a<0
 ·go_wp2;go_ret;exact⟨4,rfl,Qt (BB.2 (.inl a1)),HO⟩
 ·by_cases a2:2<a
  ·go_wp2;go_ret;exact⟨4,rfl,Qt (BB.2 (.inr (.inl a2))),HO⟩
  ·by_cases b1:b<0
   ·go_wp2;go_ret;exact⟨4,rfl,Qt (BB.2 (.inr (.inr (.inl b1)))),HO⟩
   ·by_cases b2:f2≤b
    ·go_wp2;go_ret;exact⟨4,rfl,Qt (BB.2 (.inr (.inr (.inr b2)))),HO⟩
    ·have Bg:=aB (¬vN c b a) (fun h=>by rcases BB.1 h with h|h|h|h<;>contradiction)
     by_cases h5:c.f 5=2
     ·rw[h5]at c5;have RK:=ae<|HT2 Bg h5;have adg:=ae<|tx ao;clear h5 tx;obtain⟨m,rfl⟩:=Int.eq_ofNat_of_zero_le (show 0≤a by omega);have CZ:m≤2:=ao;go_upto_region 6 with(go_at_call 84;refine adg.mono ?_;rintro e W2 ⟨rfl,md,rfl⟩);clear c2 c5 Mr adg;have Mr:=agd.out md;have c9:aw (W.drewN md) cb 9 (c.f 9):=HC.out md 9 aD;have Vl:aw (W.drewN md) cb 10 (c.f 10):=HC.out md 10 aD;have Z2:aw (W.drewN md) cb 11 (c.f 11):=HC.out md 11 aD;go_upto_region 8 with(go_at_call 85;refine(HPR md).mono ?_;rintro e W3 ⟨ob,rfl,h1,h2,h3⟩;have H1:=ae h1;have H3:=ae h3;clear h1 h2 h3);have bn:=ae<|(HO.drewN md).trans H3;have HRZ:=aB ((fX c.h b= -1∧∀t,bO c.h (eW c.h (dV c)) b t=0)∨∃r:Nat,fX c.h b=r∧r<c.h.length∧∀t,bO c.h (eW c.h (dV c)) b t=eW c.h (dV c) r t) (by
       unfold fX bO
       by_cases e:bj c.h b<c.h.length
       ·exact .inr ⟨bj c.h b,by rw[if_pos e],e,fun t=>by rw[if_pos e]⟩
       ·exact .inl ⟨by rw[if_neg e],fun t=>by rw[if_neg e]⟩)
      generalize ZE:bO c.h (eW c.h (dV c)) b=pv at *;have HPV:=ae ZE;clear ZE Mr c9 Vl Z2;rcases HRZ.out with⟨er,h0⟩|⟨r,er,hr,h0⟩
      ·rw[er];have H0:=ae h0;clear er h0 HRZ
       go_loopw [9] (fun v wr=>S9 pv m W3 v wr) (fun v _=>4 - (intOf v).toNat)
       case atStart=>exact⟨m,dm _,ao,rfl,fun u h1 h2=>absurd h2 ao,rfl⟩
       case round=>
        obtain⟨t,J3,ht,rfl,iQ,rfl⟩:=hrel;have HN:=ae iQ;clear iQ
        by_cases F0:t<3
        ·have hti:(t:Int)<3:=ao;have Gs:=ae F0;have HMT:=ae J3;clear F0 ht J3;go_wp2
         go_roundw
         case rel=>exact⟨t+1,by have:=HMT.out;omega,Gs,by go_num,fun u h1 h2=>by have:=H0.out u;omega,rfl⟩
         case measure=>simp[intOf];have:=Gs.out;omega
        ·exact sn
      ·rw[er];have H0:=ae h0;have HR:=ae hr;have ZD:(r:Int)<c.h.length:=ao;clear er h0 hr HRZ
       go_loopw [9] (fun v wr=>S9 pv m W3 v wr) (fun v _=>4 - (intOf v).toNat)
       case atStart=>exact⟨m,dm _,ao,rfl,fun u h1 h2=>absurd h2 ao,rfl⟩
       case round=>
        obtain⟨t,J3,ht,rfl,iQ,rfl⟩:=hrel;have HN:=ae iQ;clear iQ
        by_cases F0:t<3
        ·have hti:(t:Int)<3:=ao;have Gs:=ae F0;have HMT:=ae J3;have eix:(4*(r:Int)+(t:Int)).toNat=r*4+t:=ao;have hix:4*(r:Int)+(t:Int)<c.h.length*4:=by have:=HR.out;omega
         have afh:0≤4*(r:Int)+(t:Int):=ao;have yv:=H1.af (yP c.h.length (eW c.h (dV c)) HR (show t<4 by omega));rw[←H0.out t]at yv;clear F0 ht J3
         by_cases hp:0<pv t
         ·have HP:=ae hp;go_wp2;go_ret;refine⟨t+1,rfl,RK _ ?_,bn⟩;rw[Int.toNat_natCast];exact .inl ⟨t,HMT,Gs,HP,fun u h1 h2=>by have:=HN.out u h1 h2;omega,rfl⟩
         ·have HP:=ae (show pv t≤0 by omega);go_wp2
          go_roundw
          case rel=>exact⟨t+1,by have:=HMT.out;omega,Gs,by go_num,fun u h1 h2=>by
           by_cases e:u=t
           ·rw[e];have:=HP.out;omega
           ·have:=HN.out u h1 ao;omega,rfl⟩
          case measure=>simp[intOf];have:=Gs.out;omega
        ·exact sn
     ·exact rW
end
end
end Go.Proofs.YtchofaecncibjaaGreat

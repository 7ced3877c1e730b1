/- Lemmas. -/
import Derived.Test.YtchofaecncibjaaGreatM10
import Derived.Test.YtchofaecncibjaaGreatM23
set_option linter.all false
set_option maxHeartbeats 20000000
set_option maxRecDepth 100000
namespace Go.Proofs.YtchofaecncibjaaGreat
section
open Go.ChangeShapes Go.RowKit Go.WideShapes
def fT (c:aM)(hv:Value)(bc:Nat)(t:TypeId)(x:Value)(mb:Nat):Array Value:=ak c hv ++ #[ah bc,.iface t x,.map (some mb)]
theorem lY{P:Prop}(h:P:=by
 rw[Array.getElem?_append_left (by show i<17;omega)];exact aL c hv hi):P:=h
theorem DR (c:aM)(hv:Value)(bc:Nat)(t:TypeId)(x:Value)(mb:Nat){i:Nat}(hi:i<16):(fT c hv bc t x mb)[i]? =some (ah (c.f i)):=by
 unfold fT;exact lY
theorem IP (c:aM)(hv:Value)(bc:Nat)(t:TypeId)(x:Value)(mb:Nat):(fT c hv bc t x mb)[17]? =some (ah bc):=rfl
theorem BH (c:aM)(hv:Value)(bc:Nat)(t:TypeId)(x:Value)(mb:Nat):(fT c hv bc t x mb)[18]? =some (.iface t x):=rfl
theorem BI (c:aM)(hv:Value)(bc:Nat)(t:TypeId)(x:Value)(mb:Nat):(fT c hv bc t x mb)[19]? =some (.map (some mb)):=rfl
abbrev oM:=List Int×Value
def EF (D:Int→Option oM):Int→Option Value:=fun b=>(D b).map Prod.snd
def RC (w:World)(v:Value)(l:List Int):Prop:=nD w v l∧∀k,aK v k→∃cs,Box w k 5 cs
theorem RC.aA {S:Nat→Prop}{w w':World}{v:Value}{l:List Int}(h:RC w v l)(ho:ag S w w')(hn:∀k,aK v k→¬S k):RC w' v l:=
 ⟨h.1.aA ho hn,fun k hk=>by obtain⟨cs,hb⟩:=h.2 k hk;exact⟨cs,ho.aq hb (hn k hk)⟩⟩
structure G8 (w:World)(cb mb:Nat)(F:Nat→Prop)(size:Int)(l:List Int)(v:Value):Prop where
 len:(l.length:Int)=size
 row:RC w v l
 at_:∃g ca,v=aU g l.length ca∧g<w.heap.size∧g≠cb∧g≠mb∧¬F g
theorem G8.Yt {w:World}{cb mb:Nat}{F:Nat→Prop}{size:Int}{l:List Int}{v:Value}(h:G8 w cb mb F size l v):nD w v l:=h.row.1
structure cP (K:aZ)(i:K.ι)(w:World)(cb mb:Nat)(c:aM)(hv:Value)(bc:Nat)(s:K.σ)(D:Int→Option oM):Prop where
 aq:Box w cb 126 (fT c hv bc K.t (K.x i) mb)
 ord:K.R i s w
 map:ij w mb (EF D)
 keys:∀b,(D b).isSome=true↔b∈K.sp.all s
 ed:∀b l v,D b=some (l,v)→G8 w cb mb (K.F i) (c.f 3) l v
 Gl:¬K.F i cb
 Gk:¬K.F i mb
 right:cK c
 t1:1≤bc
 t3:bc≤3
 bw:∃A n cp,hv= .slice A n cp∧aW w A n cp c.h∧(0<c.h.length→∀k,aK hv k→¬K.F i k∧k≠cb∧k≠mb)
section
variable {K:aZ}{i:K.ι}{w:World}{cb mb:Nat}{c:aM}{hv:Value}{bc:Nat}{s:K.σ}{D:Int→Option oM}
theorem cP.cm (h:cP K i w cb mb c hv bc s D):cb≠mb:=h.map.ne h.aq
theorem cP.aA {S:Nat→Prop}{w':World}(h:cP K i w cb mb c hv bc s D)(ho:ag S w w')(hS:∀k,k<w.heap.size→¬S k):cP K i w' cb mb c hv bc s D:=
 {aq:=ho.aq h.aq (hS _ h.aq.lt),ord:=(K.oc i).aA h.ord ho fun k hk=>hS k ((K.oc i).lt h.ord k hk),map:=h.map.aA ho (hS _ h.map.lt),keys:=h.keys,Gl:=h.Gl,Gk:=h.Gk,right:=h.right,t1:=h.t1,t3:=h.t3
  ed:=fun b l v hb=>by
   obtain⟨h1,h2,g,ca,rfl,h3,h4⟩:=h.ed b l v hb;exact⟨h1,h2.aA ho fun k hk=>by rw[←aG.1 hk];exact hS g h3,g,ca,rfl,Nat.lt_of_lt_of_le h3 ho.size,h4⟩
  bw:=by
   obtain⟨A,n,cp,h1,h2,h3⟩:=h.bw;exact⟨A,n,cp,h1,h2.aA ho hS,h3⟩}
theorem cP.keep {w':World}(h:cP K i w cb mb c hv bc s D)(ho:ag az w w'):cP K i w' cb mb c hv bc s D:=h.aA ho fun _ _=>id
theorem AQ (b:Int)(h:cP K i w cb mb c hv bc s D):
 Calls Tryz.prog 75 #[aO cb,ah b] w fun e w'=>e= .returned (.bool (decide (b∈K.sp.all s)))∧ag az w w':=by
 have hx:aE w cb 18 (.iface K.t (K.x i)):=h.aq.af (BH _ _ _ _ _ _);have hm:=(K.oc i).Ry.m;have he:=(K.oc i).Ry.e;have HC:=ae<|(K.oc i).has b h.ord;generalize decide (b∈K.sp.all s)=k at *;clear h
 go_enter Tryz.func75,Tryz.ntmps75
 go_wp2_with (refine HC.mono ?_;rintro e w1 ⟨rfl,h1⟩);go_ret;exact⟨rfl,h1⟩
theorem XR (h:cP K i w cb mb c hv bc s D):
 Calls Tryz.prog 58 #[aO cb] w fun e w'=>∃v,e= .returned v∧aF 3 w' w.heap.size v (K.sp.all s)∧ag az w w':=by
 have hx:aE w cb 18 (.iface K.t (K.x i)):=h.aq.af (BH _ _ _ _ _ _);have hm:=(K.oc i).Rz.m;have he:=(K.oc i).Rz.e;have HC:=ae<|(K.oc i).all h.ord;clear h
 go_enter Tryz.func58,Tryz.ntmps58
 go_wp2_with (refine HC.mono ?_;rintro e w1 ⟨v,rfl,h1,h2⟩);go_ret;exact⟨v,rfl,h1,h2⟩
theorem rp{P:Prop}(h:P:=by
 rw[fB,dX];clear fB dX
 go_enter Tryz.func119,Tryz.ntmps119
 go_wp2;go_ret;exact⟨rfl,rfl⟩):P:=h
theorem mV (b:Int)(h:cP K i w cb mb c hv bc s D):
 Calls Tryz.prog 119 #[aO cb,ah b] w fun e w'=>e= .returned (.bool (decide (0≤b)&&decide (b<c.f 2)))∧w=w':=by
 have hx:aw w cb 2 (c.f 2):=h.aq.af (DR _ _ _ _ _ _ aD);generalize c.f 2=n at *;clear h
 by_cases h1:0≤b
 ·have fB:decide (0≤b)=true:=by simp[h1]
  by_cases h2:b<n
  ·have dX:decide (b<n)=true:=by simp[h2]
   exact rp
  ·have dX:decide (b<n)=false:=by simp[h2]
   exact rp
 ·have fB:decide (0≤b)=false:=by simp[h1]
  rw[fB];clear fB
  go_enter Tryz.func119,Tryz.ntmps119
  go_wp2;go_ret;exact⟨rfl,rfl⟩
def Sz (c:aM)(bc:Nat)(b level:Int):Bool:=decide (0≤b)&&decide (b<c.f 2)&&(decide (c.f 5≠1)||decide (level=bc))
theorem ri{P:Prop}(h:P:=by
 go_enter Tryz.func120,Tryz.ntmps120
 go_wp2_with (go_at_call 119;refine HT.mono ?_;rintro e w1 ⟨rfl,rfl⟩);go_ret;exact⟨rfl,rfl⟩):P:=h
theorem PR (b level:Int)(h:cP K i w cb mb c hv bc s D)(hp:c.f 5≠2):
 Calls Tryz.prog 120 #[aO cb,ah b,ah level] w fun e w'=>e= .returned (.bool (Sz c bc b level))∧w=w':=by
 have hx5:aw w cb 5 (c.f 5):=h.aq.af (DR _ _ _ _ _ _ aD);have Dy:aw w cb 17 bc:=h.aq.af (IP _ _ _ _ _ _);have HT:=mV b h;unfold Sz;generalize(decide (0≤b)&&decide (b<c.f 2))=k at *;have HT:=ae HT;generalize c.f 5=pl at *;clear h
 cases k with
 |false=>
  exact ri
 |true=>
  by_cases h1:pl=1
  ·by_cases h2:level=bc
   ·have e:(true&&(decide (pl≠1)||decide (level=(bc:Int))))=true:=by simp[h2]
    rw[e];clear e
    go_enter Tryz.func120,Tryz.ntmps120
    go_wp2_with (go_at_call 119;refine HT.mono ?_;rintro e w1 ⟨rfl,rfl⟩);go_ret;exact⟨by simp,rfl⟩
   ·have e:(true&&(decide (pl≠1)||decide (level=(bc:Int))))=false:=by simp[h1,h2]
    rw[e];clear e;have h2':(level==(bc:Int))=false:=by simpa using h2
    go_enter Tryz.func120,Tryz.ntmps120
    go_wp2_with (go_at_call 119;refine HT.mono ?_;rintro e w1 ⟨rfl,rfl⟩);go_ret;exact⟨by simp[h2],rfl⟩
  ·have e:(true&&(decide (pl≠1)||decide (level=(bc:Int))))=true:=by simp[h1]
   rw[e];clear e;exact ri
end
def Sr (K:aZ)(w:World)(e:Ending)(w':World):Prop:=∃i,e= .returned (.iface K.t (K.x i))∧K.R i K.s0 w'∧(∀k,K.F i k→w.heap.size≤k)∧ag az w w'
def aZ.Made (K:aZ)(c:aM)(bc:Nat):Prop:=
 ∀(w:World) (A:Option Addr) (n cp:Nat),aW w A n cp c.h→Calls Tryz.prog 67 #[.agg (ak c (.slice A n cp)),ah bc] w (Sr K w)
section
theorem sg{P:Prop}(h:P:=by
 rcases hj with rfl|rfl|rfl
 ·exact Nat.le_trans hsz h2
 ·exact Nat.le_trans hsz h3
 ·exact Nat.le_trans hsz h4):P:=h
theorem TW {c:aM}{k:Nat}(hP:cK c)(hk:k<3)(hp:c.f 5≠2)(hq:c.f (6+k)≠2):(Rj (c.f (9+k)).toNat).Made c (k+1):=by
 intro w A n cp bw;have hc:=hP.pc k hk;obtain⟨cap,ox⟩:=Int.eq_ofNat_of_zero_le (show 0≤c.f (9+k) by omega);rw[ox]at hc;rw[ox,Int.toNat_natCast];have HN:=fun w=>Xn (cap:=cap) w ao ao
 have HN:=ae HN;clear bw hP hc;have hw:IntKind.i64.wrap (((k+1:Nat):Int) - 1)=k:=by rw[IntKind.wrap_i64];omega
 have ZK:(k:Int)<3:=ao;have hcell:=fun(W:World) (bb:Nat) (hb:Box W bb 25 (ak c (.slice A n cp))) (i:Nat) (hi:i<16)=>hb.af (aL c (.slice A n cp) hi)
 have HC:=ae hcell;have HF:=ae ox;have HQ:=ae hq;clear hcell ox hq
 go_enter Tryz.func67,Tryz.ntmps67
 go_upto_region 1 with fail;have HB:=ae<|Box.fresh w 25 (ak c (.slice A n cp));have HO:=ae<|(ag.aj az w).alloc (.cells (ak c (.slice A n cp)) 25);generalize w.alloc (.cells (ak c (.slice A n cp)) 25)=W1 at *;generalize w.heap.size=bb at *;have c5:=HC.out W1 bb HB 5 aD;have c6:=HC.out W1 bb HB (6+k) ao;have c9:=HC.out W1 bb HB (9+k) ao;rw[HF.out]at c9;have hq:=HQ.out;generalize c.f 5=f5 at *;generalize c.f (6+k)=f6 at *;have Gc:=ae<|HN W1;clear HC HF HQ HN;go_wp2_with (go_at_call 102;refine Gc.mono ?_;rintro e W2 ⟨p,g,eb,rfl,h1,h2,h3,h4,h5⟩);go_ret;have hsz:=HO.size;refine⟨(p,g,eb),rfl,⟨h1,dT _⟩,fun j hj=>?_,HO.trans h5⟩;exact sg
end
theorem gU {P:Program}{ops:Array Oper}{rest:List Oper}{o:Oper}{a:Act}{w:World}{Q:Exit→Act→World→Prop}(wC:o.guard=none)(t:TypeId)(parts:Array (Nat×Operand))(ho:o.op= .build t parts)
 (pv:List (Nat×Value)) (cells:Array Value) (hf:(parts.map fun(i,x)=>(i,a.eval x)).toList=pv) (hb:P.built t pv=some cells) (h:wpList P ops Q rest (a.put o.dst (.agg cells)) w):wpList P ops Q (o :: rest) a w:=
 wpList_plain wC fun K hK=>Go.wp_build t parts ho (by rw[hf,hb];rfl) (by rw[hf,hb];exact hK _ _ h)
theorem PW (c:aM)(hv:Value)(A:Option Addr)(n cp:Nat)(bc:Int)(t:TypeId)(x:Value)(mb:Nat):Tryz.prog.built 126 [(0,.agg (ak c (.slice A n cp))),(1,ah bc),(2,.iface t x),(3,.map (some mb))]=some (ak c (.slice A n cp) ++ #[ah bc,.iface t x,.map (some mb)]):=by kernel_rfl
def ael (K:aZ)(c:aM)(bc:Nat)(w:World)(e:Ending)(w':World):Prop:=
 ∃i cb mb hv,e= .returned (.tuple #[aO cb,ah 0])∧cP K i w' cb mb c hv bc K.s0 (fun _=>none)∧(∀k,K.F i k→w.heap.size≤k)∧w.heap.size≤cb∧w.heap.size≤mb∧(0<c.h.length→∀k,aK hv k→w.heap.size≤k)∧ag az w w'
section
theorem aW.mH {S:Nat→Prop}{w w':World}{A:Option Addr}{n c:Nat}{l:List aS}(h:aW w A n c l)(ho:ag S w w')(hS:0<l.length→∀k,aK (.slice A n c) k→¬S k):aW w' A n c l:=
 ⟨h.len,h.cap,h.max,fun i hi=>by
  obtain⟨g,o,e,hg,h0,h1,h2,h3⟩:=h.at_ i hi;have hn:=hS ao g (by rw[e];exact aG.2 rfl);exact⟨g,o,e,Nat.lt_of_lt_of_le hg ho.size,ho.cell h0 hn,ho.cell h1 hn,ho.cell h2 hn,ho.cell h3 hn⟩⟩
theorem qD{P:Prop}(h:P:=by
 refine gU rfl _ _ rfl [(0,.agg (ak c (.slice B c.h.length kJ))),(1,ah bc),(2,.iface KO.t (KO.x i)),(3,.map (some mb))] _ ?_ (PW c (.slice B c.h.length kJ) B c.h.length kJ bc KO.t (KO.x i) mb) ?_
 ·simp[Act.eval]
 go_wp2;go_ret2;have gX:=Box.fresh W6 126 (fT c (.slice B c.h.length kJ) bc KO.t (KO.x i) mb);have bu:ag az W6 (W6.alloc (.cells (fT c (.slice B c.h.length kJ) bc KO.t (KO.x i) mb) 126)):=(ag.aj _ _).alloc _;have ZC:=bK.size;have hs6:=cZ.size;refine⟨i,W6.heap.size,mb,_,rfl,{aq:=gX,ord:=(KO.oc i).aA tz bu fun _ _=>id,map:=HM.keep bu,keys:=fun b=>by rw[KO.nil];simp,ed:=fun b l v h=>(by cases h),Gl:=fun h=>by have:=bL.out _ h;omega,Gk:=Gx.out,right:=HP.out,t1:=h1,t3:=h3,bw:=⟨B,c.h.length,kJ,rfl,MB.keep (cZ.trans bu),fun h0 k hk=>?_⟩},fun k hk=>Nat.le_trans ZC (HFL k hk),Nat.le_trans ZC hs6,Nat.le_trans ZC vF,fun h0 k hk=>(HW h0 k hk).2,bK.trans (cZ.trans bu)⟩;have ZK:=(HW h0 k hk).1;rw[←oK.out]at ZK;refine⟨fun h=>by have:=HFL.out k h;omega,ao,fun e=>by have:=vF.out;omega⟩):P:=h
theorem gG{P:Prop}(h:P:=by
 exact⟨by first|exact aH.1.alloc _|exact hB5|exact hB5.alloc _|exact iM,by first|exact aH.2.alloc _|exact hO5|exact hO5.alloc _|exact(ag.aj az W4).drew⟩):P:=h
theorem Nt {KO:aZ}{c:aM}{bc:Nat}(hK:KO.Made c bc)(hP:cK c)(h1:1≤bc)(h3:bc≤3){A:Option Addr}{n cp:Nat}(w:World)(bw:aW w A n cp c.h):
 Calls Tryz.prog 31 #[.agg (ak c (.slice A n cp)),ah bc] w (ael KO c bc w):=by
 have HK:=ae hK;have HP:=ae hP;have hlen:c.h.length≤100:=by have:=hP.hs.2.2;omega
 have HL:=ae hlen;have HI:=ae bw;have Mk:¬(bc:Int)<1:=ao;have F0:¬(3:Int)<bc:=ao;clear hK hP hlen bw
 go_enter Tryz.func31,Tryz.ntmps31
 go_upto_region 1 with fail;have bU:=ae<|Box.fresh w 25 (ak c (.slice A n cp));have aX:=ae<|(ag.aj az w).alloc (.cells (ak c (.slice A n cp)) 25);have lL:=ae<|HI.keep aX;generalize w.alloc (.cells (ak c (.slice A n cp)) 25)=W1 at *;obtain⟨bb,Gp⟩:∃bb,bb=w.heap.size:=⟨_,rfl⟩;have Bl:=aB (w.heap.size≤bb) (Nat.le_of_eq Gp.symm);rw[←Gp]at bU ⊢;clear Gp HI;have hr:=D3 A n cp c W1 lL;rw[IM HP.out]at hr;have HR:=ae hr;clear hr;go_upto_region 3 with(first|(refine fH (ak c (.slice A n cp)) bU Tryz.underlying25 ?_)|(go_at_call 66;refine HR.mono ?_;rintro e W2 ⟨rfl,bp⟩));have cO:=ae<|bp.aq bU id;have Bj:=ae<|lL.keep bp;have bf:=ae<|aX.trans bp;clear bp bU lL aX HR;have Rt:aE W2 bb 16 (.slice A n cp):=cO.af (fA c _);have wM:=ae<|Cw W2 Bj HL;go_upto_region 4 with(go_at_call 32;refine wM.mono ?_;rintro e W3 ⟨B,kJ,rfl,U7,cB,vm⟩;have dM:=ae<|cB.aq cO id;have Sn:aE W3 bb 16 (.slice A n cp):=cB.cell Rt id;have aaB:=dM.free 16);have hO4:ag az w (W3.setCell ⟨bb,16,none⟩ (.slice B c.h.length kJ)):=(bf.trans cB).setCell (p:=⟨bb,16,none⟩) (.inr Bl) _;have hB4:Box (W3.setCell ⟨bb,16,none⟩ (.slice B c.h.length kJ)) bb 25 (ak c (.slice B c.h.length kJ)):=dM.store 16 (.slice B c.h.length kJ);have hH4:aW (W3.setCell ⟨bb,16,none⟩ (.slice B c.h.length kJ)) B c.h.length kJ c.h:=U7.mH (S:=ar bb) ((ag.aj (ar bb) W3).setCell (p:=⟨bb,16,none⟩) (.inl (show ar bb bb from rfl)) _) fun _ k hk e=>by
  have h1:=vm k hk;have h2:=cO.lt;have h3:k=bb:=e;omega
 have bK:=ae hO4;have iM:=ae hB4;have MB:=ae hH4;have HW:=aB (0<c.h.length→∀k,aK (.slice B c.h.length kJ) k→k<W3.heap.size∧w.heap.size≤k) (fun h0 k hk=>by
  have ae7:=Nat.le_trans bf.size (vm k hk);obtain⟨g,o,e,hg,_⟩:=U7.at_ 0 h0;subst e;refine⟨?_,ae7⟩;rw[←aG.1 hk];exact hg)
 have oK:=ae (show(W3.setCell ⟨bb,16,none⟩ (.slice B c.h.length kJ)).heap.size=W3.heap.size by simp[World.setCell]);change Code.wp _ _ _ _ (W3.setCell ⟨bb,16,none⟩ (.slice B c.h.length kJ));clear hO4 hB4 hH4 U7 cB vm dM Sn aaB cO Bj bf Rt wM;generalize W3.setCell ⟨bb,16,none⟩ (.slice B c.h.length kJ)=W4 at *;have uW:= @run_makeMap Tryz.prog;refine oa (fun w':World=>Box w' bb 25 (ak c (.slice B c.h.length kJ))∧ag az W4 w') 6 ?_ ?_
 ·exact gG
 intro aH;refine cj (i:=0) (v:=.agg (ak c (.slice B c.h.length kJ))) bZ rfl bZ (fun _ _ _ h=>h) (yieldsIf_load_mid (by rfl) 25 _ rfl bb 0 rfl (ak c (.slice B c.h.length kJ)).toList _ (fun w hw j v hj=>by rw[Nat.zero_add];exact hw.1.af (by rw[←Array.getElem?_toList];exact hj)) Tryz.underlying25 rfl bZ) (by assumption) ?_;refine CW ?_;refine bX [1] ?_;refine cj (i:=2) (v:=.agg (ak c (.slice B c.h.length kJ))) bZ rfl bZ (fun _ _ _ h=>h) (yieldsIf_load_mid (by rfl) 25 _ rfl bb 0 rfl (ak c (.slice B c.h.length kJ)).toList _ (fun w hw j v hj=>by rw[Nat.zero_add];exact hw.1.af (by rw[←Array.getElem?_toList];exact hj)) Tryz.underlying25 rfl bZ) (by assumption) ?_;refine CW ?_;refine bX [3] ?_;refine il (i:=4) (j:=5) rfl rfl bZ (fun K hK=>?_) (fun K hK=>?_)
 ·go_simp;refine(HK W4.drew B c.h.length kJ (MB.keep ((ag.aj az W4).drew))).mono ?_;rintro e W5 ⟨i,rfl,hR,hF,cA⟩;have hO5:ag az W4 W5:=((ag.aj az W4).drew).trans cA;have hB5:=cA.aq aH.1 id;have iz:=ae hR;have iT:=ae hF;have HP5:=ae cA;clear hR hF cA;refine jS hK ?_ fun aH=>?_
  ·exact gG
  clear hK;refine cM 5 fun K hK=>?_
  go_simp
  skip
  refine jS hK ?_ fun aH=>?_
  ·exact gG
  clear hK;refine cG ?_;have HM:=aB (ij (W5.alloc (.map #[] 0)) W5.heap.size (EF fun _=>none)) (ij.made W5);have aY:=(KO.oc i).lt iz;have bT:ag az W5 (W5.alloc (.map #[] 0)):=(ag.aj az W5).alloc _;have tz:=aB (KO.R i KO.s0 (W5.alloc (.map #[] 0))) ((KO.oc i).aA iz bT fun _ _=>id);have Gx:=aB (¬KO.F i W5.heap.size) (fun h=>by have:=aY _ h;omega);have HFL:=aB (∀k,KO.F i k→W4.heap.size≤k) (fun k hk=>iT k hk);have vF:=aB (W4.heap.size≤W5.heap.size) (HP5.size);have cZ:=ae aH.2;have bL:=aB (∀k,KO.F i k→k<(W5.alloc (.map #[] 0)).heap.size) (fun k hk=>by have:=aY k hk;rw[World.size_alloc];omega);clear aY bT aH hB5 hO5 iz iT HP5;generalize(W5.alloc (.map #[] 0))=W6 at *;generalize W5.heap.size=mb at *;exact qD
 ·go_simp
  skip
  refine jS hK ?_ fun aH=>?_
  ·exact gG
  clear hK;refine cM 4 fun K hK=>?_
  go_simp;refine(HK (W4.drew.alloc (.map #[] 0)) B c.h.length kJ (MB.keep (((ag.aj az W4).drew).alloc (.map #[] 0)))).mono ?_;rintro e W5 ⟨i,rfl,hR,hF,cA⟩;have hO5:ag az W4 W5:=(((ag.aj az W4).drew).alloc (.map #[] 0)).trans cA;have hB5:=cA.aq aH.1 id;have iz:=ae hR;have iT:=ae hF;have HP5:=ae cA;clear hR hF cA;refine jS hK ?_ fun aH=>?_
  ·exact gG
  clear hK;refine cG ?_;have HM:=(show ij W5 W4.heap.size (EF fun _=>none)from(ij.made W4.drew).keep HP5);have aY:=(KO.oc i).lt iz;have tz:=iz;have Gx:=(show¬KO.F i W4.heap.size from fun h=>by have h1:=iT.out _ h;rw[World.size_alloc]at h1;have h2:W4.drew.heap.size=W4.heap.size:=rfl;omega);have HFL:=aB (∀k,KO.F i k→W4.heap.size≤k) (fun k hk=>by have h1:=iT.out _ hk;rw[World.size_alloc]at h1;have h2:W4.drew.heap.size=W4.heap.size:=rfl;omega);have cZ:=ae aH.2;have bL:=ae aY;clear aY aH hB5 hO5 iz iT HP5;obtain⟨mb,fW⟩:∃mb,mb=W4.heap.size:=⟨_,rfl⟩;have vF:=aB (W4.heap.size≤mb) (Nat.le_of_eq fW.symm);rw[←fW]at HM Gx;have HM:=ae HM;have Gx:=ae Gx;rw[←fW];clear fW;generalize W5=W6 at *;exact qD
end
def Ko (D:Int→Option oM)(g:Bool)(v b:Int)(p:oM):Int→Option oM:=aT (if g=true then aT D v none else D) b (some p)
def xg (D:Int→Option oM)(g:Bool)(v:Int):Value:=if g=true then((D v).map Prod.snd).getD aJ else aJ
theorem Wh (D:Int→Option oM)(b:Int)(p:oM):Ak (EF D) b p.2=EF (aT D b (some p)):=by
 funext x
 unfold Ak EF aT
 split<;>rfl
theorem MO (D:Int→Option oM)(b:Int):wU (EF D) b=EF (aT D b none):=by
 funext x
 unfold wU EF aT
 split<;>rfl
def UR (F:Nat→Prop)(mb:Nat):Nat→Prop:=fun k=>F k∨k=mb
def Nz (K:aZ)(i:K.ι)(cb mb:Nat)(c:aM)(hv:Value)(bc:Nat)(s:K.σ)(D:Int→Option oM)(b:Int)(dl:List Int)(w:World)(e:Ending)(w':World):Prop:=
 ∃vv,e= .returned (.tuple #[.agg #[ah (K.sp.add s b).2.1,xg D (K.sp.add s b).2.2 (K.sp.add s b).2.1],.bool (K.sp.add s b).2.2,ah 0])∧
  cP K i w' cb mb c hv bc (K.sp.add s b).1 (Ko D (K.sp.add s b).2.2 (K.sp.add s b).2.1 b (dl,vv))∧(∀k,aK vv k→w.heap.size≤k)∧ag (UR (K.F i) mb) w w'
theorem nY {P:Program}{fn:Func}{p u v:Tmp}{ty:TypeId}(h:fn.results=#[.cell p ty,.tmp u,.tmp v])(tmps:Array Value)(w:World)(g:Nat)(t:TypeId)(cs:Array Value)(fr:Nat×Nat)(d:TypeDesc)
 (hp:tmps.getD p undef=aO g) (hg:w.heap[g]? =some (.cells cs t fr))
 (hu:P.underlying ty=some d) (hd:(match d with| .struct _| .array _ _=>true|_=>false)=true) (hi:(P.info? ty).map (·.size)=some cs.size):
 (results fn tmps).run P w= .ok (.tuple #[.agg cs,tmps.getD u undef,tmps.getD v undef]) w:=by
 have ym:tmps[p]?.getD undef=aO g:=by simpa using hp
 simp[results,h,ym,asAddr,run_loadVar_row w g t ty cs fr d hg hu hd hi]
theorem Fp {w:World}{v:Value}{l:List Int}(h:nD w v l)(hl:0<l.length):∀k,aK v k→k<w.heap.size:=by
 intro k hk;obtain⟨A,c,rfl,_,_,h3⟩:=h;obtain⟨g,o,rfl,hc⟩:=h3.at_ (i:=0) (by rw[List.length_map];exact hl) undef;rw[←aG.1 hk];exact World.block_lt_of_cell? w _ hc
theorem G8.mH {w w':World}{cb mb:Nat}{F:Nat→Prop}{size:Int}{l:List Int}{v:Value}(h:G8 w cb mb F size l v)(ho:ag (UR F mb) w w'):G8 w' cb mb F size l v:=by
 obtain⟨h1,h2,g,ca,rfl,h3,h4,h5,h6⟩:=h;exact⟨h1,h2.aA ho fun k hk e=>by rw[←aG.1 hk]at e;exact e.elim h6 h5,g,ca,rfl,Nat.lt_of_lt_of_le h3 ho.size,h4,h5,h6⟩
theorem Ks:Tryz.prog.underlying 124=some (.map 3 35):=Tryz.underlying124
def acf (W4:World)(mb rb:Nat)(D:Int→Option oM)(g:Bool)(v:Int)(wx:World):Prop:=
 Box wx rb 102 #[ah v,xg D g v]∧ij wx mb (EF (if g=true then aT D v none else D))∧ag (fun k=>k=mb∨k=rb) W4 wx
section
theorem XP {KO:aZ}{i:KO.ι}{w:World}{cb mb:Nat}{c:aM}{hv:Value}{bc:Nat}{s:KO.σ}{D:Int→Option oM}(h:cP KO i w cb mb c hv bc s D)
 {b:Int} {dl:List Int} {dv:Value} (kv:nD w dv dl) (eD:∀k,aK dv k→¬KO.F i k∧k≠mb) (h0:0≤b) (h1:b<c.f 2) (hl:(dl.length:Int)=c.f 3) (level:Int)
 (HT:∀w',cP KO i w' cb mb c hv bc s D→Calls Tryz.prog 120 #[aO cb,ah b,ah level] w' fun e mR=>e= .returned (.bool true)∧ag az w' mR)
 (ht:KO.sp.takes b) (cw:KO.sp.eE s<bN):
 Calls Tryz.prog 89 #[aO cb,.agg #[ah b,dv],ah level] w (Nz KO i cb mb c hv bc s D b dl w):=by
 obtain⟨dA,dc,rfl,Va,Ql,gj⟩:=id kv;have VO:b<64:=by have:=h.right.p2;omega
 have adL:=ae fun W (hR:KO.R i s W)=>(KO.oc i).add hR h0 VO ht cw
 have Wc:=ae<|(KO.oc i).GO h.ord h0 VO ht;have tx:=ae fun(v:Int) (hv:v∈KO.sp.all s)=>(KO.oc i).kA h.ord hv
 have sT:=fun W (hC:cP KO i W cb mb c hv bc s D)=>mV b hC
 rw[show(decide (0≤b)&&decide (b<c.f 2))=true by simp[h0,h1]]at sT;have sT:=ae sT;have vE:=ae HT;have H:=ae h;have HBY:=ae kv;have JU:=ae eD;have HDL:=ae (show 0<dl.length by have:=h.right.p3;omega);have HDW:=ae<|Fp kv HDL;clear eD;have HL:=ae hl;have Vy:=aB (0≤b∧b<64) (⟨h0,VO⟩);clear HT ht cw h kv hl gj h0 h1 VO Va Ql
 go_enter Tryz.func89,Tryz.ntmps89
 go_upto_region 1 with fail;have fB:=Box.fresh w 102 #[ah b,.slice dA dl.length dc];have dX:=Box.fresh (w.alloc (.cells #[ah b,.slice dA dl.length dc] 102)) 102 #[ah 0,aJ];rw[World.size_alloc]at dX;have fB:=fB.alloc (.cells #[ah 0,aJ] 102);have aR:=((ag.aj az w).alloc (.cells #[ah b,.slice dA dl.length dc] 102)).alloc (.cells #[ah 0,aJ] 102);have aX:=ae aR;have H1:=ae<|H.keep aR;have adG:=ae<|HBY.aA aR fun _ _=>id;have aat:=(KO.oc i).lt H.ord;have fL:=H.aq.lt;have fW:=H.map.lt;have hnf:¬KO.F i w.heap.size:=fun e=>by have:=aat _ e;omega
 have hnv:¬KO.F i (w.heap.size+1):=fun e=>by have:=aat _ e;omega
 have F7:w.heap.size≠cb∧w.heap.size≠mb∧w.heap.size+1≠cb∧w.heap.size+1≠mb∧w.heap.size≠w.heap.size+1∧w.heap.size≤w.heap.size+1:=⟨ao,ao,ao,ao,ao,ao⟩;have zG:=ae H.Gl;have Gx:=ae H.Gk;change Code.wp _ _ _ _ ((w.alloc (.cells #[ah b,.slice dA dl.length dc] 102)).alloc (.cells #[ah 0,aJ] 102));clear aR aat fL fW HBY;generalize(w.alloc (.cells #[ah b,.slice dA dl.length dc] 102)).alloc (.cells #[ah 0,aJ] 102)=W1 at *;obtain⟨fb,gu⟩:∃fb,fb=w.heap.size:=⟨_,rfl⟩;obtain⟨rb,jO⟩:∃rb,rb=w.heap.size+1:=⟨_,rfl⟩;have oK:=aB (w.heap.size≤fb∧w.heap.size≤rb) (⟨ao,ao⟩);rw[←jO]at dX hnv F7;rw[←gu]at fB hnf F7;rw[←jO,←gu];clear gu jO;have k6:=ae fB;have tm:=ae dX;have yt:=ae hnf;have HNV:=ae hnv;have HD:=ae F7;clear fB dX hnf hnv F7;have f0:aw W1 fb 0 b:=k6.af rfl;have f1:aE W1 fb 1 (.slice dA dl.length dc):=k6.af rfl;have s3:aw W1 cb 3 dl.length:=by rw[HL.out];exact H1.aq.af (DR _ _ _ _ _ _ aD)
 go_upto_region 5 with(go_at_call 119;refine(sT W1 H1).mono ?_;rintro e W ⟨rfl,rfl⟩);refine oa (fun w':World=>w'=W1.drew) 9 ?_ ?_
 ·rfl
 intro aH;refine bX [0,1,2,3,4,5,6,7,8] ?_;refine cG ?_;clear aH sT;go_upto_region 7 with fail;have H2:=aB (cP KO i W1.drew cb mb c hv bc s D) (H1.keep ((ag.aj az W1).drew));have lG:=aB (Box W1.drew fb 102 #[ah b,.slice dA dl.length dc]) (k6);have CS:=aB (Box W1.drew rb 102 #[ah 0,aJ]) (tm);have adF:=aB (nD W1.drew (.slice dA dl.length dc) dl) (adG);have bf:=ae aX.drew;clear f0 f1 s3 H1 k6 tm adG aX;generalize W1.drew=W2 at *;have f0:aw W2 fb 0 b:=lG.af rfl;go_upto_region 9 with(go_at_call 120;refine(vE W2 H2).mono ?_;rintro e W3 ⟨rfl,cB⟩);have H3:=ae<|H2.keep cB;have jE:=ae<|cB.aq lG id;have DH:=ae<|cB.aq CS id;have adE:=ae<|adF.aA cB fun _ _=>id;have bn:=ae<|bf.trans cB;clear cB f0 H2 lG CS adF bf vE;have k1:aE W3.drew cb 18 (.iface KO.t (KO.x i)):=H3.aq.af (BH _ _ _ _ _ _);have k2:aw W3.drew fb 0 b:=jE.af rfl;have iR:=aB (KO.R i s W3.drew) ((KO.oc i).aA H3.ord ((ag.aj az W3).drew) fun _ _=>id);have hm:=(KO.oc i).RA.m;have he:=(KO.oc i).RA.e;refine dU (fun w':World=>aE w' cb 18 (.iface KO.t (KO.x i))∧aw w' fb 0 b) 13 fun aH=>?_
 refine bX [0,1,2,3,4,5] ?_;refine cM 6 fun K hK=>?_
 go_simp;refine(adL W3.drew iR).mono ?_;rintro e W4 ⟨rfl,QK,cI⟩;have jc:=ae QK;have bK:=ae cI;have k1:=cI.cell aH.1 zG;have k2:=cI.cell aH.2 yt;clear QK cI;refine eh hK fun aH=>?_
 clear hK;refine bX [7,8,9,10,11,12] ?_;refine cG ?_;clear aH k1 k2 iR adL hm he;have Sx:=ae H3.keys;have adB:=ae H3.ed;have YI:=aB (cP KO i W3.drew cb mb c hv bc s D) (H3.keep ((ag.aj az W3).drew));have iM:=ae<|bK.aq YI.aq zG;have yw:=ae<|YI.map.aA bK Gx;have kg:=ae<|bK.aq (show Box W3.drew fb 102 #[ah b,.slice dA dl.length dc]from jE) yt;have yi:=ae<|bK.aq (show Box W3.drew rb 102 #[ah 0,aJ]from DH) HNV;have adD:=ae<|(show nD W3.drew (.slice dA dl.length dc) dl from adE).aA bK fun k hk=>(JU k hk).1;have adm:=ae<|(bn.drew.mono (S':=UR (KO.F i) mb) fun k h=>h.elim).aC bK fun k hk=>.inl (.inl hk);clear jE DH adE;clear H3 bn bK;generalize UD:(KO.sp.add s b).1=s' at *;generalize hg2:(KO.sp.add s b).2.1=v at *;generalize hg3:(KO.sp.add s b).2.2=g at *;have HG1:=ae UD;have UN:=ae hg2;have YH:=ae hg3;clear UD hg2 hg3;have m19:aE W4 cb 19 (.map (some mb)):=iM.af (BI _ _ _ _ _ _);go_upto_if 55 with fail
 go_cut [] (fun wx=>acf W4 mb rb D g v wx)
 case first=>
  cases g with
  |false=>
   have uM:v=0:=Wc.elim (fun h=>h.2.1) fun h=>(by cases h.1)
   have HV0:=ae uM;clear uM;go_wp2
   go_meet
   case rel=>exact⟨by rw[HV0.out];exact yi,yw,ag.aj _ _⟩
  |true=>
   have aav:v∈KO.sp.all s:=Wc.elim (fun h=>(by cases h.1)) fun h=>h.2.1
   have Zw:=tx.out v aav;obtain⟨⟨l0,v0⟩,hDv⟩:=Option.isSome_iff_exists.1 ((Sx v).2 aav);obtain⟨_,_,g0,CR,e0,_⟩:=adB.out v l0 v0 hDv;subst e0;have hI:DG v:=⟨ao,ao⟩;have acx:EF D v=some (aU g0 l0.length CR):=by unfold EF;rw[hDv];rfl
   have Qj:=vY (P:=Tryz.prog) yw Ks Tryz.underlying3 (z:=aJ) bZ hI;rw[acx]at Qj;have Qj:(Instr.lookup 124 (.map (some mb)) (ah v) false).run Tryz.prog W4= .ok (aU g0 l0.length CR) W4:=Qj;have HI:=ae hI;have HVD:=ae (show xg D true v=aU g0 l0.length CR by unfold xg;rw[if_pos rfl,hDv];rfl);clear aav Zw hDv hI acx;go_upto_region 14 with(refine fJ #[ah v,aU g0 l0.length CR] yi (by simp[Value.oneCell']) ?_);have cA:ag (fun k=>k=mb∨k=rb) W4 (W4.setRow rb #[ah v,aU g0 l0.length CR]):=(ag.aj _ _).au (.inl (.inr rfl)) _;have U0:=yi.au #[ah v,aU g0 l0.length CR];have ZG:ij (W4.setRow rb #[ah v,aU g0 l0.length CR]) mb (EF D):=yw.aA (((ag.aj (ar rb) W4).au (.inl (show ar rb rb from rfl)) _)) fun e=>HD.2.2.2.1 (show mb=rb from e).symm
   have Ym:=(((ag.aj (ar rb) W4).au (.inl (show ar rb rb from rfl)) #[ah v,aU g0 l0.length CR])).aq iM fun e=>HD.2.2.1 (show cb=rb from e).symm
   have bM:=ae cA;have vD:=ae U0;have Ra:=ae ZG;have agv:aE (W4.setRow rb #[ah v,aU g0 l0.length CR]) cb 19 (.map (some mb)):=Ym.af (BI _ _ _ _ _ _);clear cA U0 ZG Ym m19 Qj;generalize W4.setRow rb #[ah v,aU g0 l0.length CR]=W5 at *;obtain⟨u5,W6,Kt,hm6,bT⟩:=pT (P:=Tryz.prog) Ra Ks Tryz.underlying3 HI 0;have Qy:=ae hm6;have cZ:=ae bT;clear hm6 bT;go_wp2
   go_meet
   case rel=>
    refine⟨?_,?_,bM.aC cZ fun k hk=>.inl (.inl hk)⟩
    ·rw[HVD.out];exact cZ.aq vD fun e=>HD.2.2.2.1 (show rb=mb from e)
    ·rw[if_pos rfl,←MO];exact Qy
 case rest=>
  obtain⟨U0,ZG,cA⟩:=hcut;obtain⟨W5,e5⟩:∃W5,W5=wc:=⟨_,rfl⟩;subst e5;have wD:=H.cm;have vD:=ae U0;have Ra:=ae ZG;have bM:=ae cA;have iG:=ae<|cA.aq iM fun e=>e.elim wD fun e=>HD.2.2.1 e.symm;have iT:=ae<|cA.aq kg fun e=>e.elim HD.2.1 HD.2.2.2.2.1;have hdr:∀k,aK (.slice dA dl.length dc) k→¬(k=mb∨k=rb):=fun k hk e=>e.elim (JU k hk).2 fun e=>by have:=HDW.out k hk;have:=oK.2;omega
  have agf:=aB (nD W5.drew (.slice dA dl.length dc) dl) (adD.aA cA.drew hdr);clear U0 ZG cA wD hdr iM yw kg yi adD m19;have k1:aE W5.drew cb 19 (.map (some mb)):=iG.af (BI _ _ _ _ _ _);have k2:aw W5.drew fb 0 b:=iT.af rfl;have k3:aE W5.drew fb 1 (.slice dA dl.length dc):=iT.af rfl;have HI:=aB (DG b) (⟨by have:=Vy.out;omega,by have:=Vy.out;omega⟩);go_upto_region 15 with fail;refine dU (fun w':World=>aE w' cb 19 (.map (some mb))∧aw w' fb 0 b∧aE w' fb 1 (.slice dA dl.length dc)) 9 fun aH=>?_
  refine bX [0,1,2,3,4,5,6,7] ?_;refine cM 8 fun K hK=>?_
  go_simp;refine(uJ _ dl W5.drew agf).mono ?_;rintro e W6 ⟨vv,rfl,YW,bT,Y5⟩;have JQ:=ae YW;have cZ:=ae bT;have zI:=ae Y5;have k1:=bT.cell aH.1 id;have k2:=bT.cell aH.2.1 id;have k3:=bT.cell aH.2.2 id;clear YW bT Y5;refine eh hK fun aH=>?_
  clear hK;refine cG ?_;clear aH k1 k2 k3;have Wa:=ae<|(ag.aj az W5).drew.trans cZ;have Qy:=ae<|Ra.keep Wa;refine xY W6 rfl _ _ _ rfl Ks Tryz.underlying3 mb (EF (if g=true then aT D v none else D)) b vv rfl rfl rfl Qy HI ?_;intro W7 hm7 dL;have NV:=ae hm7;have fC:=ae dL;have JP:=ae<|dL.aq (Wa.aq vD id) fun e=>HD.2.2.2.1 (show rb=mb from e);have HVO:=ae (show(xg D g v).oneCell'=true by
   cases g with
   |false=>rfl
   |true=>
    unfold xg;rw[if_pos rfl]
    cases hDv:D v with
    |none=>rfl
    |some p=>
     obtain⟨l0,v0⟩:=p;obtain⟨_,_,g0,CR,e0,_⟩:=adB.out v l0 v0 hDv;subst e0;rfl)
  clear hm7 dL Qy HI;generalize hvd:xg D g v=vd at *;have HVD:=ae hvd;clear hvd;go_wp2_with (first|(refine fH #[ah v,vd] JP Tryz.underlying102 ?_)|(refine fJ #[ah v,vd] JP (by have:=HVO.out;simp[Value.oneCell']at this ⊢;exact this) ?_));have acD:ag (ar rb) W7 (W7.setRow rb #[ah v,vd]):=(ag.aj (ar rb) W7).au (.inl (show ar rb rb from rfl)) _;have hv8:=JP.au #[ah v,vd];generalize W7.setRow rb #[ah v,vd]=W8 at *;refine bodyPost_ret (nY rfl _ _ rb _ #[ah v,vd] (0,0) _ rfl hv8 Tryz.underlying102 rfl bZ) rfl ?_;have aal:ag (fun k=>k=mb∨k=rb) W6 W8:=(fC.mono (S':=fun k=>k=mb∨k=rb) fun k hk=>.inl (.inl hk)).aC acD fun k hk=>.inl (.inr hk)
  have acE:ag (fun k=>k=mb∨k=rb) W4 W8:=(bM.da Wa).trans aal;have Rm:ag (UR (KO.F i) mb) w W8:=adm.aC acE fun k hk=>hk.elim (fun e=>.inl (.inr e)) fun e=>.inr (by have:=oK.2;omega)
  have hs5:=bM.size;have hs6:=Wa.size;have hs8:=aal.size;have fW:=Ra.lt;have fL:=iG.lt;have jO:=vD.lt;have agR:W5.drew.heap.size=W5.heap.size:=rfl;have aan:G8 W8 cb mb (KO.F i) (c.f 3) dl vv:=by
   have EN:=zI.out;have ac0:nD W6 vv dl:=JQ.Yt (by have:=H.right.p3;have:=HL.out;omega);have hsh:=JQ.out;rcases hsh with⟨_,e⟩|⟨g9,aaP,VR,rfl,QU,_⟩
   ·have:=HDL.out;have:dl= []:=by simpa [bytes] using e
    rw[this]at HDL;exact absurd HDL (Nat.lt_irrefl _)
   ·have h9:=EN g9 (aG.2 rfl);have hl9:=QU.lt;rw[show(bytes dl).length=dl.length by simp[bytes]]at ac0 ⊢;refine⟨HL,RC.aA ⟨ac0,fun k hk=>⟨VR,by rw[←aG.1 hk];exact QU⟩⟩ aal fun k hk e=>?_,g9,aaP,rfl,ao,ao,ao,fun e=>?_⟩
    ·have:=aG.1 hk;rcases e with e|e<;>omega
    ·have:=(KO.oc i).lt jc g9 e;omega
  refine⟨vv,by rw[UN.out,YH.out,HVD.out];rfl,?_,fun k hk=>?_,Rm⟩
  ·rw[HG1.out,UN.out,YH.out];refine {aq:=Rm.aq H.aq (fun e=>e.elim zG H.cm),ord:=(KO.oc i).aA jc acE fun k hk e=>?_,map:=?_,keys:=fun y=>?_,ed:=fun y l' v' hy=>?_,Gl:=zG.out,Gk:=Gx.out,right:=H.right,t1:=H.t1,t3:=H.t3,bw:=?_}
   ·rcases e with rfl|rfl
    ·exact Gx hk
    ·exact HNV hk
   ·have hm8:=NV.aA acD fun e=>HD.2.2.2.1 (show mb=rb from e).symm
    rw[Wh (if g=true then aT D v none else D) b (dl,vv)]at hm8;exact hm8
   ·unfold Ko aT
    by_cases e:y=b
    ·rw[if_pos e];refine⟨fun _=>?_,fun _=>rfl⟩;rcases Wc.out with⟨_,_,h9⟩|⟨_,_,_,h9⟩
     ·exact(h9 y).2 (.inl e)
     ·exact(h9 y).2 (.inl e)
    ·rw[if_neg e];rcases Wc.out with⟨hg,_,h9⟩|⟨hg,_,_,h9⟩
     ·rw[hg,if_neg (by simp),h9 y,Sx.out y];exact⟨.inr,fun h=>h.resolve_left e⟩
     ·rw[hg,if_pos rfl,h9 y]
      by_cases e2:y=v
      ·subst e2;simp[e]
      ·rw[if_neg e2,Sx.out y];exact⟨fun h=>.inr ⟨h,e2⟩,fun h=>(h.resolve_left e).1⟩
   ·unfold Ko aT at hy
    split at hy
    ·injection hy with hy;injection hy with h8 h9;rw[←h8,←h9];exact aan
    ·cases g with
     |false=>exact(H.ed y l' v' hy).mH Rm
     |true=>
      rw[if_pos rfl]at hy
      split at hy
      ·cases hy
      ·exact(H.ed y l' v' hy).mH Rm
   ·obtain⟨hA,hn9,ZP,e9,h8,h9⟩:=H.bw;exact⟨hA,hn9,ZP,e9,h8.mH Rm fun h0 k hk e=>by
     have:=h9 h0 k (e9▸hk);exact e.elim this.1 this.2.2,h9⟩
  ·have:=zI.out k hk;have:=adm.size;omega
end
section
variable {K:aZ}{i:K.ι}{w w':World}{cb mb:Nat}{c:aM}{hv:Value}{bc:Nat}{s s':K.σ}{D:Int→Option oM}
theorem cP.Aj (h:cP K i w cb mb c hv bc s D)(hR:K.R i s' w')(ho:ag (K.F i) w w')(hk:∀y,y∈K.sp.all s'↔y∈K.sp.all s):cP K i w' cb mb c hv bc s' D where
 aq:=ho.aq h.aq h.Gl
 ord:=hR
 map:=h.map.aA ho h.Gk
 keys:=fun b=>(h.keys b).trans (hk b).symm
 ed:=fun b l v hb=>(h.ed b l v hb).mH (ho.mono fun k hk=>.inl (.inl hk))
 Gl:=h.Gl
 Gk:=h.Gk
 right:=h.right
 t1:=h.t1
 t3:=h.t3
 bw:=by
  obtain⟨A,n,cp,e,h8,h9⟩:=h.bw;exact⟨A,n,cp,e,h8.mH ho fun h0 k hk=>(h9 h0 k (e▸hk)).1,h9⟩
theorem cP.off {S:Nat→Prop}(h:cP K i w cb mb c hv bc s D)(ho:ag S w w')(h1:∀k,K.F i k→¬S k)(h2:¬S cb)(h3:¬S mb)(h4:∀b l v,D b=some (l,v)→∀k,aK v k→¬S k)(h5:0<c.h.length→∀k,aK hv k→¬S k):cP K i w' cb mb c hv bc s D where
 aq:=ho.aq h.aq h2
 ord:=(K.oc i).aA h.ord ho h1
 map:=h.map.aA ho h3
 keys:=h.keys
 ed:=fun b l v hb=>by
  have h9:=h4 b l v hb;obtain⟨a1,a2,g,ca,rfl,a3,a4⟩:=h.ed b l v hb;exact⟨a1,a2.aA ho h9,g,ca,rfl,Nat.lt_of_lt_of_le a3 ho.size,a4⟩
 Gl:=h.Gl
 Gk:=h.Gk
 right:=h.right
 t1:=h.t1
 t3:=h.t3
 bw:=by
  obtain⟨A,n,cp,e,h8,h9⟩:=h.bw;exact⟨A,n,cp,e,h8.mH ho fun h0 k hk=>h5 h0 k (e▸hk),h9⟩
theorem cP.Zr (h:cP K i w cb mb c hv bc s D){b:Int}{l:List Int}{v:Value}(hb:D b=some (l,v)):∀k,aK v k→k<w.heap.size:=fun k hk=>by
 obtain⟨_,_,g,ca,rfl,a3,_⟩:=h.ed b l v hb;rw[←aG.1 hk];exact a3
theorem cP.ltH (h:cP K i w cb mb c hv bc s D)(h0:0<c.h.length):∀k,aK hv k→k<w.heap.size:=fun k hk=>by
 obtain⟨A,n,cp,rfl,h8,_⟩:=h.bw;obtain⟨g,o,rfl,hg,_⟩:=h8.at_ 0 h0;rw[←aG.1 hk];exact hg
theorem cP.Mi (h:cP K i w cb mb c hv bc s D){b:Int}{p:oM}(hb:D b=some p):b∈K.sp.all s:=(h.keys b).1 (by rw[hb];rfl)
theorem cP.acq (h:cP K i w cb mb c hv bc s D){b:Int}(hb:D b=none):b∉K.sp.all s:=fun e=>by
 have:=(h.keys b).2 e;rw[hb]at this
 cases this
def afs (K:aZ)(i:K.ι)(cb mb:Nat)(c:aM)(hv:Value)(bc:Nat)(s:K.σ)(D:Int→Option oM)(b:Int)(l:List Int)(w:World)(e:Ending)(w':World):Prop:=
 ∃v,e= .returned (.tuple #[v,.bool true])∧Row 5 w' v (bytes l)∧(∀k,aK v k→w.heap.size≤k)∧cP K i w' cb mb c hv bc (K.sp.use s b) D∧ag (K.F i) w w'
theorem L4 {b:Int}(h:cP K i w cb mb c hv bc s D)(hb:D b=none):
 Calls Tryz.prog 39 #[aO cb,ah b] w fun e w'=>e= .returned (.tuple #[aJ,.bool false])∧ag az w w':=by
 have HH:=AQ b h;rw[decide_eq_false (h.acq hb)]at HH;have HH:=ae HH;clear h hb
 go_enter Tryz.func39,Tryz.ntmps39
 go_wp2_with (go_at_call 75;refine HH.mono ?_;rintro e w1 ⟨rfl,h1⟩);go_ret2;exact⟨rfl,h1⟩
theorem L5 {b:Int}{l:List Int}{dv:Value}(h:cP K i w cb mb c hv bc s D)(hb:D b=some (l,dv))(cw:K.sp.eE s<bN):
 Calls Tryz.prog 39 #[aO cb,ah b] w (afs K i cb mb c hv bc s D b l w):=by
 have ig:=h.Mi hb;have HH:=AQ b h;rw[decide_eq_true ig]at HH;have HH:=ae HH;have uV:=(K.oc i).kA h.ord ig;have HI:=aB (DG b) (⟨ao,ao⟩);have HU:=ae fun w' (hC:cP K i w' cb mb c hv bc s D)=>(K.oc i).use hC.ord ig cw
 have HL:=ae<|(K.oc i).Rh h.ord ig;have hm:=(K.oc i).Rw.m;have he:=(K.oc i).Rw.e;have H:=ae h;have HV:=ae (show EF D b=some dv by unfold EF;rw[hb];rfl);have HD:=ae hb;have HR:=ae h.right;clear h hb ig uV cw
 go_enter Tryz.func39,Tryz.ntmps39
 go_upto_region 3 with(go_at_call 75;refine HH.mono ?_;rintro e W1 ⟨rfl,aR⟩);have H1:=ae<|H.keep aR;have aX:=ae aR;have x1:aE W1 cb 18 (.iface K.t (K.x i)):=H1.aq.af (BH _ _ _ _ _ _);clear aR;go_upto_region 4 with(refine(HU W1 H1).mono ?_;rintro e W2 ⟨rfl,wB,bp⟩);have H2:=ae<|H1.Aj wB bp HL;have bf:=ae bp;clear x1 wB bp hm he;have x2:aE W2 cb 19 (.map (some mb)):=H2.aq.af (BI _ _ _ _ _ _);have Qj:=vY (P:=Tryz.prog) H2.map Ks Tryz.underlying3 (z:=aJ) bZ HI;rw[HV.out,Option.getD_some]at Qj;have kv:=(H2.ed b l dv HD).Yt;have HBY:=ae kv;clear kv;go_wp2_with (go_at_call 40;refine(uJ _ l W2 HBY).mono ?_;rintro e W3 ⟨v,rfl,wR,cB,aan⟩);go_ret2;have pA:=aX.size;have kC:=bf.size;exact⟨v,rfl,wR,fun k hk=>by have:=aan k hk;omega,H2.keep cB,((aX.mono fun _ hk=>hk.elim).trans bf).da cB⟩
end
theorem XO (c:aM)(A:Option Addr)(n m:Nat):(ak c (.slice A n m)).all (·.oneCell')=true:=by simp[ak,Value.oneCell']
def lc:aM:=⟨fun i=>[1,1,4,1,2,0,1,1,1,1,1,1,1,1,0,1].getD i 0,[]⟩
theorem lx:cK lc where
 p0:=aD
 p1:=aD
 p2:=aD
 p3:=aD
 p4:=aD
 p5:=aD
 pp:=aD
 pl:=aD
 pc:=aD
 P8:=aD
 Uv:=aD
 Uu:=aD
 Zo:=aD
 ph:=.inr rfl
 hs:=⟨fun i hi=>absurd hi (Nat.not_lt_zero _),fun i j _ hj=>absurd hj (Nat.not_lt_zero _),aD⟩
section
end
section
end
theorem pM {P:Program}{fn:Func}{p u:Tmp}{ty:TypeId}(h:fn.results=#[.cell p ty,.tmp u])(tmps:Array Value)(w:World)(g:Nat)(t:TypeId)(cs:Array Value)(fr:Nat×Nat)(d:TypeDesc)
 (hp:tmps.getD p undef=aO g) (hg:w.heap[g]? =some (.cells cs t fr))
 (hu:P.underlying ty=some d) (hd:(match d with| .struct _| .array _ _=>true|_=>false)=true) (hi:(P.info? ty).map (·.size)=some cs.size):
 (results fn tmps).run P w= .ok (.tuple #[.agg cs,tmps.getD u undef]) w:=by
 have ym:tmps[p]?.getD undef=aO g:=by simpa using hp
 simp[results,h,ym,asAddr,run_loadVar_row w g t ty cs fr d hg hu hd hi]
def zF:Array Value:=#[ah 0,aJ]
section
end
section
variable {K:aZ}{i:K.ι}{w w':World}{cb mb:Nat}{c:aM}{hv:Value}{bc:Nat}{s s':K.σ}{D:Int→Option oM}
theorem cP.less (h:cP K i w cb mb c hv bc s D){b:Int}(hb:b∈K.sp.all s){w1:World}(hR:K.R i (K.sp.rem s b) w1)(aR:ag (K.F i) w w1)(hm:ij w' mb (EF (aT D b none)))(bp:ag (ar mb) w1 w'):
 cP K i w' cb mb c hv bc (K.sp.rem s b) (aT D b none):=by
 have ho:ag (UR (K.F i) mb) w w':=(aR.mono fun k hk=>.inl (.inl hk)).aC bp fun k hk=>.inl (.inr hk)
 exact {
  aq:=ho.aq h.aq fun e=>e.elim h.Gl h.cm
  ord:=(K.oc i).aA hR bp fun k hk e=>h.Gk (by rw[←show k=mb from e];exact hk)
  map:=hm
  keys:=fun y=>by
   unfold aT;rw[(K.oc i).Kn h.ord hb y]
   by_cases e:y=b
   ·rw[if_pos e];simp[e]
   ·rw[if_neg e,h.keys y];simp[e]
  ed:=fun y l v hy=>by
   unfold aT at hy
   split at hy
   ·cases hy
   ·exact(h.ed y l v hy).mH ho
  Gl:=h.Gl
  Gk:=h.Gk
  right:=h.right
  t1:=h.t1
  t3:=h.t3
  bw:=by
   obtain⟨A,n,cp,e,h8,h9⟩:=h.bw;exact⟨A,n,cp,e,h8.mH ho fun h0 k hk e2=>by
    have:=h9 h0 k (e▸hk);exact e2.elim this.1 this.2.2,h9⟩}
def aey (K:aZ)(i:K.ι)(cb mb:Nat)(c:aM)(hv:Value)(bc:Nat)(s:K.σ)(D:Int→Option oM)(b:Int)(l:List Int)(dv:Value)(w:World)(e:Ending)(w':World):Prop:=
 e= .returned (.tuple #[.agg #[ah b,dv],.bool true])∧cP K i w' cb mb c hv bc (K.sp.rem s b) (aT D b none)∧G8 w' cb mb (K.F i) (c.f 3) l dv∧ag (UR (K.F i) mb) w w'
theorem gM{P:Prop}(h:P:=by simp[zF,Value.oneCell']):P:=h
theorem JD {b:Int}(h:cP K i w cb mb c hv bc s D)(hb:D b=none):
 Calls Tryz.prog 50 #[aO cb,ah b] w fun e w'=>e= .returned (.tuple #[.agg zF,.bool false])∧ag az w w':=by
 have HB:=ae<|Box.fresh w 102 zF;have HO:=ae<|(ag.aj az w).alloc (.cells zF 102);have HH:=AQ b (h.keep HO);rw[decide_eq_false (h.acq hb)]at HH;have HH:=ae HH;clear h hb
 go_enter Tryz.func50,Tryz.ntmps50
 go_upto_region 1 with fail;change Code.wp _ _ _ _ (w.alloc (.cells zF 102));generalize w.alloc (.cells zF 102)=W at *;obtain⟨rb,jO⟩:∃rb,rb=w.heap.size:=⟨_,rfl⟩;have vG:=aB (w.heap.size≤rb) (Nat.le_of_eq jO.symm);rw[←jO]at HB ⊢;clear jO;go_upto_region 2 with(go_at_call 75;refine HH.mono ?_;rintro e W1 ⟨rfl,aR⟩);have bU:=ae<|aR.aq HB id;have aX:=ae<|HO.trans aR;clear aR;go_wp2_with (refine fJ zF bU gM ?_);refine bodyPost_ret (pM rfl _ _ rb _ zF (0,0) _ rfl (bU.au _) Tryz.underlying102 rfl bZ) rfl ?_;exact⟨rfl,aX.au (.inr vG) _⟩
theorem JE {b:Int}{l:List Int}{dv:Value}(h:cP K i w cb mb c hv bc s D)(hb:D b=some (l,dv)):
 Calls Tryz.prog 50 #[aO cb,ah b] w (aey K i cb mb c hv bc s D b l dv w):=by
 have ig:=h.Mi hb;have uS:=ae ig;have HB:=ae<|Box.fresh w 102 zF;have HO:=ae<|(ag.aj az w).alloc (.cells zF 102);have H:=ae<|h.keep HO;have HH:=AQ b H;rw[decide_eq_true ig]at HH;have HH:=ae HH;have uV:=(K.oc i).kA h.ord ig;have HI:=aB (DG b) (⟨ao,ao⟩);have HU:=ae fun w' (hC:cP K i w' cb mb c hv bc s D)=>(K.oc i).rem hC.ord ig
 have hm:=(K.oc i).Rx.m;have he:=(K.oc i).Rx.e;have HV:=ae (show EF D b=some dv by unfold EF;rw[hb];rfl);have HD:=ae hb;have bL:=ae<|(K.oc i).lt h.ord;have Db:=ae h.aq.lt;have Vt:=ae fun y l' v' (hy:D y=some (l',v'))=>h.Zr hy
 have HLH:=ae h.ltH;have vF:=ae h.map.lt;obtain⟨_,_,g0,CR,e0,hg0,_⟩:=h.ed b l dv hb;have HG0:=ae hg0;have HE0:=ae e0;clear h hb ig uV hg0
 go_enter Tryz.func50,Tryz.ntmps50
 go_upto_region 1 with fail;change Code.wp _ _ _ _ (w.alloc (.cells zF 102));generalize w.alloc (.cells zF 102)=W at *;obtain⟨rb,jO⟩:∃rb,rb=w.heap.size:=⟨_,rfl⟩;have vG:=aB (w.heap.size≤rb) (Nat.le_of_eq jO.symm);rw[←jO]at HB ⊢;clear jO;subst e0;go_upto_region 3 with(go_at_call 75;refine HH.mono ?_;rintro e W1 ⟨rfl,aR⟩);have H1:=ae<|H.keep aR;have bU:=ae<|aR.aq HB id;have aX:=ae<|HO.trans aR;clear aR HB HO H HH;have x1:aE W1 cb 19 (.map (some mb)):=H1.aq.af (BI _ _ _ _ _ _);have Qj:=vY (P:=Tryz.prog) H1.map Ks Tryz.underlying3 (z:=aJ) bZ HI;rw[HV.out,Option.getD_some]at Qj;go_upto_region 4 with(refine fJ #[ah b,aU g0 l.length CR] (Box.fresh W1 102 zF) (by simp[Value.oneCell']) ?_);have bp:ag az W1 ((W1.alloc (.cells zF 102)).setRow W1.heap.size #[ah b,aU g0 l.length CR]):=((ag.aj az W1).alloc _).au (.inr (dm _)) _;have U8:=(Box.fresh W1 102 zF).au #[ah b,aU g0 l.length CR];have lG:=ae U8;have H2:=ae<|H1.keep bp;have cO:=ae<|bp.aq bU id;have bf:=ae<|aX.trans bp;clear bp U8 x1 Qj bU;change Code.wp _ _ _ _ ((W1.alloc (.cells zF 102)).setRow W1.heap.size #[ah b,aU g0 l.length CR]);generalize(W1.alloc (.cells zF 102)).setRow W1.heap.size #[ah b,aU g0 l.length CR]=W2 at *;obtain⟨fb,gu⟩:∃fb,fb=W1.heap.size:=⟨_,rfl⟩;have HLF:=ae (show w.heap.size≤fb by rw[gu];exact aX.size);rw[←gu]at lG ⊢;clear gu;have x2:aE W2 cb 18 (.iface K.t (K.x i)):=H2.aq.af (BH _ _ _ _ _ _);go_upto_region 5 with(refine(HU W2 H2).mono ?_;rintro e W3 ⟨rfl,hr3,cB⟩);have iR:=ae hr3;have bn:=ae cB;have acF:¬K.F i rb:=fun e=>by have:=bL.out _ e;have:=vG.out;omega
 have acH:¬K.F i fb:=fun e=>by have:=bL.out _ e;have:=HLF.out;omega
 have dM:=ae<|cB.aq cO acF;have jE:=ae<|cB.aq lG acH;have oG:=ae<|H2.map.aA cB H2.Gk;have x3:aE W3 cb 19 (.map (some mb)):=cB.cell (H2.aq.af (BI _ _ _ _ _ _)) H2.Gl;clear hr3 cB x2 hm he acF acH cO lG;obtain⟨u5,W4,Kt,NI,cI⟩:=pT (P:=Tryz.prog) oG Ks Tryz.underlying3 HI 0;rw[MO]at NI;have bK:=ae cI;have wN:=ae<|H2.less uS iR bn NI cI;have iM:=ae (cI.aq dM fun e=>by have h1:rb=mb:=e;have:=vF.out;have:=vG.out;omega);have kg:=ae (cI.aq jE fun e=>by have h1:fb=mb:=e;have:=vF.out;have:=HLF.out;omega);have DM:=ae<|(H2.ed b _ _ HD).mH ((bn.mono (S':=UR (K.F i) mb) fun k hk=>.inl (.inl hk)).aC cI fun k hk=>.inl (.inr hk));clear NI cI oG dM jE;go_upto_region 6 with fail;clear Kt x3;go_wp2_with (first|(refine fH #[ah b,aU g0 l.length CR] kg Tryz.underlying102 ?_)|(refine fJ #[ah b,aU g0 l.length CR] iM (by simp[Value.oneCell']) ?_));refine bodyPost_ret (pM rfl _ _ rb _ #[ah b,aU g0 l.length CR] (0,0) _ rfl (iM.au _) Tryz.underlying102 rfl bZ) rfl ?_;have cA:ag (ar rb) W4 (W4.setRow rb #[ah b,aU g0 l.length CR]):=(ag.aj (ar rb) W4).au (.inl (show ar rb rb from rfl)) _;have how:ag (UR (K.F i) mb) w (W4.setRow rb #[ah b,aU g0 l.length CR]):=
  (((bf.mono (S':=UR (K.F i) mb) fun k hk=>hk.elim).aC bn fun k hk=>.inl (.inl hk)).aC bK fun k hk=>.inl (.inr hk)).aC cA fun k hk=>.inr (by
   rw[show k=rb from hk];exact vG)
 have hn:∀k,k<w.heap.size→¬ar rb k:=fun k hk e=>by rw[show k=rb from e]at hk;have:=vG.out;omega
 refine⟨rfl,wN.off cA (fun k hk=>hn k (bL k hk)) (hn cb Db) (hn mb vF) (fun y l' v' hy k hk=>hn k (Vt y l' v' (by unfold aT at hy;split at hy;cases hy;exact hy) k hk)) fun h0 k hk=>hn k (HLH h0 k hk),?_,how⟩;obtain⟨a1,a2,g,ca,e,a3,a4⟩:=DM.out;injection e with e;injection e with e;injection e with e;subst e;exact⟨a1,a2.aA cA fun k hk=>hn k (by rw[←aG.1 hk];exact HG0),g0,_,rfl,Nat.lt_of_lt_of_le a3 cA.size,a4⟩
end
section
variable {K:aZ}{i:K.ι}{w w':World}{cb mb:Nat}{c:aM}{hv:Value}{bc:Nat}{s s':K.σ}{D:Int→Option oM}
end
end
section
open Go.ChangeShapes Go.MapKept Go.Maps Go.RowKit Go.WideShapes
theorem XQ (c:aM)(hv:Value)(bc:Nat)(t:TypeId)(x:Value)(mb:Nat){j:Nat}{v:Value}(hj:(ak c hv).toList[j]? =some v):(fT c hv bc t x mb)[j]? =some v:=by
 have aY:=(List.getElem?_eq_some_iff.1 hj).1;unfold fT;rw[Array.getElem?_append_left (by simpa using aY),←Array.getElem?_toList];exact hj
theorem Ui (c:aM)(hv:Value)(bc:Nat)(t t':TypeId)(x x':Value)(mb:Nat):(fT c hv bc t x mb).setIfInBounds 18 (.iface t' x')=fT c hv bc t' x' mb:=by rfl
section
variable {KO:aZ}{i:KO.ι}{w:World}{cb mb:Nat}{c:aM}{hv:Value}{bc:Nat}{s:KO.σ}{D:Int→Option oM}
def acg (KO:aZ)(cb mb:Nat)(c:aM)(hv:Value)(bc:Nat)(w:World)(e:Ending)(w':World):Prop:=
 ∃i',e= .returned (.tuple #[])∧cP KO i' w' cb mb c hv bc KO.s0 (fun _=>none)∧(∀k,KO.F i' k→w.heap.size≤k)∧ag (fun k=>k=mb∨k=cb) w w'
theorem PS (hK:KO.Made c bc)(h:cP KO i w cb mb c hv bc s D):
 Calls Tryz.prog 59 #[aO cb] w (acg KO cb mb c hv bc w):=by
 have HK:=ae hK;have H:=ae h;obtain⟨A,n,cp,rfl,bw,hH⟩:=h.bw;have x1:aE w cb 19 (.map (some mb)):=h.aq.af (BI _ _ _ _ _ _);obtain⟨u1,W2,Kt,pY,bp⟩:=I6 (P:=Tryz.prog) h.map Ks 0;have kx:=ae<|bw.mH bp fun h0 k hk=>(hH h0 k hk).2.2;have cO:=ae<|bp.aq h.aq h.cm;have nz:=ae pY;have bf:=ae bp;have HHH:=ae hH;have HLH:=ae h.ltH;clear h bw pY bp hH hK
 go_enter Tryz.func59,Tryz.ntmps59
 go_upto_region 2 with fail;clear x1 Kt;refine oa (fun w':World=>Box w' cb 126 (fT c (.slice A n cp) bc KO.t (KO.x i) mb)) 10 ?_ ?_
 ·first|exact hB3|exact cO
 intro aH;refine bX [0,1,2,3] ?_;refine cj (i:=4) (v:=.agg (ak c (.slice A n cp))) bZ rfl bZ (fun _ _ _ h=>h) (yieldsIf_load_mid (by rfl) 25 _ rfl cb 0 rfl (ak c (.slice A n cp)).toList _ (fun w hw j v hj=>by rw[Nat.zero_add];exact hw.af (XQ c (.slice A n cp) bc KO.t (KO.x i) mb hj)) Tryz.underlying25 rfl bZ) (by assumption) ?_;refine CW ?_;refine bX [5,6,7] ?_;refine cj (i:=8) (v:=ah bc) bZ rfl bZ (fun _ _ _ h=>h) (.inl ⟨by rfl,?_⟩) aH ?_
 ·intro w hSw;have hx:=hSw.af (IP c (.slice A n cp) bc KO.t (KO.x i) mb);go_simp;(try with_reducible rfl)
 refine CW ?_;refine cM 9 fun K hK=>?_
 go_simp;refine(HK W2.drew A n cp (kx.keep (ag.aj az W2).drew)).mono ?_;rintro e W3 ⟨i',rfl,hR,hF,cB⟩;have hB3:=cB.aq aH id;have iR:=ae hR;have jE:=ae hF;have bn:=ae<|(ag.aj az W2).drew.trans cB;clear hR hF cB;refine jS hK ?_ fun aH=>?_
 ·first|exact hB3|exact cO
 clear hK;refine cG ?_;clear aH;have dM:=ae hB3;have F6:=hB3.free 18;have hcw:aE W3 cb 18 (.iface KO.t (KO.x i)):=hB3.af (BH _ _ _ _ _ _);clear hB3;go_wp2
 (try simp only[Exit.inBlock,Exit.then])
 refine bodyPost_ret (results_none rfl _ _ _) rfl ?_;have h0:=H.out;have NL:=dM.store 18 (.iface KO.t (KO.x i'));rw[Ui]at NL;have cI:ag (ar cb) W3 (W3.setCell ⟨cb,18,none⟩ (.iface KO.t (KO.x i'))):=(ag.aj (ar cb) W3).setCell (p:=⟨cb,18,none⟩) (.inl (show ar cb cb from rfl)) _;have how:ag (fun k=>k=mb∨k=cb) w (W3.setCell ⟨cb,18,none⟩ (.iface KO.t (KO.x i'))):=
  ((bf.mono (S':=fun k=>k=mb∨k=cb) fun k hk=>.inl (.inl hk)).da bn).aC cI fun k hk=>.inl (.inr hk)
 have kC:=bf.size;have hd:W2.drew.heap.size=W2.heap.size:=rfl;have hF:∀k,KO.F i' k→w.heap.size≤k:=fun k hk=>by have:=jE.out k hk;omega
 have fL:=h0.aq.lt;have fW:=h0.map.lt;refine⟨i',rfl,{aq:=NL,ord:=(KO.oc i').aA iR cI fun k hk e=>?_,map:=(nz.keep bn).aA cI fun e=>h0.cm (show mb=cb from e).symm,keys:=fun b=>by rw[KO.nil];simp,ed:=fun b l v h=>(by cases h),Gl:=fun e=>by have:=hF _ e;omega,Gk:=fun e=>by have:=hF _ e;omega,right:=h0.right,t1:=h0.t1,t3:=h0.t3,bw:=⟨A,n,cp,rfl,(kx.keep bn).mH cI fun h00 k hk=>(HHH h00 k hk).2.1,fun h00 k hk=>⟨fun e=>?_,(HHH h00 k hk).2⟩⟩},hF,how⟩
 ·have h1:=hF k hk;have h2:k=cb:=e;omega
 ·have h1:=hF k e;have h2:=HLH.out h00 k hk;omega
end
end
section
open Go.ChangeShapes Go.RowKit Go.WideShapes
def vV (K:aZ)(i:K.ι)(cb mb:Nat)(c:aM)(hv:Value)(D:Int→Option oM)(k:Nat):Prop:=K.F i k∨k=cb∨k=mb∨(∃b l v,D b=some (l,v)∧aK v k)∨(0<c.h.length∧aK hv k)
theorem cP.ac5 {K:aZ}{i:K.ι}{w w':World}{cb mb:Nat}{c:aM}{hv:Value}{bc:Nat}{s:K.σ}{D:Int→Option oM}{S:Nat→Prop}(h:cP K i w cb mb c hv bc s D)(ho:ag S w w')(hS:∀k,vV K i cb mb c hv D k→¬S k):cP K i w' cb mb c hv bc s D:=
 {aq:=ho.aq h.aq (hS _ (.inr (.inl rfl))),ord:=(K.oc i).aA h.ord ho fun k hk=>hS k (.inl hk),map:=h.map.aA ho (hS _ (.inr (.inr (.inl rfl)))),keys:=h.keys,Gl:=h.Gl,Gk:=h.Gk,right:=h.right,t1:=h.t1,t3:=h.t3
  ed:=fun b l v hb=>by
   obtain⟨h1,h2,g,ca,rfl,h3,h4⟩:=h.ed b l v hb;exact⟨h1,h2.aA ho fun k hk=>hS k (.inr (.inr (.inr (.inl ⟨b,l,_,hb,hk⟩)))),g,ca,rfl,Nat.lt_of_lt_of_le h3 ho.size,h4⟩
  bw:=by
   obtain⟨A,n,cp,h1,h2,h3⟩:=h.bw;exact⟨A,n,cp,h1,h2.mH ho fun h0 k hk=>hS k (.inr (.inr (.inr (.inr ⟨h0,h1▸hk⟩)))),h3⟩}
theorem aW.lt {w:World}{A:Option Addr}{n c:Nat}{l:List aS}(h:aW w A n c l)(h0:0<l.length){k:Nat}(hk:aK (.slice A n c) k):k<w.heap.size:=by
 obtain⟨g,o,e,hg,_⟩:=h.at_ 0 h0;subst e;rw[←aG.1 hk];exact hg
theorem cP.ad3 {K:aZ}{i:K.ι}{w:World}{cb mb:Nat}{c:aM}{hv:Value}{bc:Nat}{s:K.σ}{D:Int→Option oM}(h:cP K i w cb mb c hv bc s D){k:Nat}(hk:vV K i cb mb c hv D k):k<w.heap.size:=by
 rcases hk with hk|rfl|rfl|⟨b,l,v,hb,hk⟩|⟨h0,hk⟩
 ·exact(K.oc i).lt h.ord k hk
 ·exact h.aq.lt
 ·exact h.map.lt
 ·obtain⟨_,_,g,ca,rfl,h3,_⟩:=h.ed b l v hb;rw[←aG.1 hk];exact h3
 ·obtain⟨A,n,cp,h1,h2,_⟩:=h.bw;exact h2.lt h0 (h1▸hk)
structure Dg where
 op:Int
 blk:Int
 lev:Int
 wr:Bool
 ed:Value
def Rv (s:Dg):Nat→Value
 |0=>.int .i64 s.op
 |1=>.int .i64 s.blk
 |2=>.int .i64 s.lev
 |3=>.bool s.wr
 |_=>s.ed
def EE:Dg:=⟨0,0,0,false,aJ⟩
def mC (n:Nat)(S:Nat→Dg):Array Value:=Array.ofFn (n:=n*5) fun i=>Rv (S (i.1 / 5)) (i.1 % 5)
theorem xD (n:Nat)(S:Nat→Dg):(mC n S).size=n*5:=by simp[mC]
theorem yN (n:Nat)(S:Nat→Dg){b j:Nat}(hb:b<n)(hj:j<5):(mC n S)[b*5+j]? =some (Rv (S b) j):=by
 have h1:b*5+j<n*5:=ao;have h2:(b*5+j) / 5=b:=ao;have h3:(b*5+j) % 5=j:=ao;simp[mC,h1,h2,h3]
theorem Tl:(Tryz.prog.info? 92).map (fun i=>(i.zero,i.size,i.bytes))=some (some (.agg #[ah 0,ah 0,ah 0,.bool false,aJ]),5,56):=by kernel_rfl
theorem YR (m:Nat):Builtin.zeroCells #[ah 0,ah 0,ah 0,.bool false,aJ] m=mC m (fun _=>EE):=by
 unfold Builtin.zeroCells mC;refine Array.ext (by simp) fun i h1 h2=>?_
 simp only[Array.getElem_ofFn];have h5:i % 5<5:=Nat.mod_lt _ aD;simp only[Array.getElem_map,Array.getElem_range]
 show(#[Value.int .i64 0,ah 0,ah 0,.bool false,aJ]:Array Value)[i % 5]! =Rv EE (i % 5)
 generalize i % 5=j at *;rcases(show j=0∨j=1∨j=2∨j=3∨j=4 by omega)with rfl|rfl|rfl|rfl|rfl<;>rfl
theorem OB (m:Nat)(hm:m≤4)(w:World):(Instr.makeSlice 77 (ah m) (ah m)).run Tryz.prog w= .ok (aU w.heap.size m m) (w.alloc (.cells (mC m (fun _=>EE)) 92)):=by
 obtain⟨i,hi,J0⟩:=Option.map_eq_some_iff.1 Tl;simp only[Prod.mk.injEq]at J0;obtain⟨hz,hs,hb⟩:=J0;have:=run_make (P:=Tryz.prog) w 77 92 i _ Tryz.underlying77 hi hz .i64 .i64 m m ao (Int.le_refl _) eO ao;rw[hs]at this;rw[this,←YR];rfl
def br (c:aM)(hv:Value)(cb:Nat)(u:Value)(sl:Value)(ops:Int)(up:Bool)(en:Value):Array Value:=ak c hv ++ #[aO cb,u,sl,ah ops,.bool up,en]
theorem Sp (c:aM)(hv:Value)(cb:Nat)(u:Value)(sl:Value)(ops:Int)(up:Bool)(en:Value){i:Nat}(hi:i<16):(br c hv cb u sl ops up en)[i]? =some (ah (c.f i)):=by
 unfold br;exact lY
theorem PV (c:aM)(A:Option Addr)(n cp:Nat)(cb sb m:Nat):Tryz.prog.built 80 [(0,.agg (ak c (.slice A n cp))),(1,aO cb),(3,aU sb m m)]=some (br c (.slice A n cp) cb (.pointer none) (aU sb m m) 0 false aJ):=by kernel_rfl
theorem Ue (c:aM)(hv:Value)(cb:Nat)(u v:Value)(sl:Value)(ops:Int)(up:Bool)(en:Value):(br c hv cb u sl ops up en).setIfInBounds 18 v=br c hv cb v sl ops up en:=by
 unfold br ak;rfl
def ach (K:aZ)(c:aM)(n:Nat)(w:World)(e:Ending)(w':World):Prop:=
 ∃i l cb mb u g eb sb hv pz,e= .returned (.tuple #[aO l,ah 0])∧Box w' l 80 (br c pz cb (aO u) (aU sb n n) 0 false aJ)∧
  Box w' sb 92 (mC n fun _=>EE)∧cP K i w' cb mb c hv 1 K.s0 (fun _=>none)∧Box w' u 135 (ft g (lP (c.f 9) (c.f 10) (c.f 11) 3) (fun _=>0) (fun _=>0))∧jV w' g eb 1 (fun _=>[])∧
  (∃A k cp,pz= .slice A k cp∧aW w' A k cp c.h∧(0<c.h.length→∀j,aK (.slice A k cp) j→(∀y,vV K i cb mb c hv (fun _=>none) y→y<j)∧j<sb))∧(∀k,K.F i k→w.heap.size≤k∧k<sb)∧w.heap.size≤cb∧cb<sb∧w.heap.size≤mb∧mb<sb∧sb<l∧l<u∧l<g∧l<eb∧ag az w w'
section
theorem uv {KO:aZ}{c:aM}(hK:KO.Made c 1)(hP:cK c){A:Option Addr}{n0 cp:Nat}(w:World)(bw:aW w A n0 cp c.h):
 Calls Tryz.prog 11 #[.agg (ak c (.slice A n0 cp))] w (ach KO c (c.f 1).toNat w):=by
 obtain⟨n,hn⟩:=Int.eq_ofNat_of_zero_le (show 0≤c.f 1 by have:=hP.p1;omega);have mX:n≤4:=by have:=hP.p1;omega
 have Gz:=ae<|OB n mX;rw[hn,Int.toNat_natCast];have kD:=ae hn;have hlen:c.h.length≤100:=by have:=hP.hs.2.2;omega
 have HL:=ae hlen;have HI:=ae bw;have HU:=fun w=>Wk (c.f 9) (c.f 10) (c.f 11) (hP.pc 0 aD) (hP.pc 1 aD) (hP.pc 2 aD) w
 have HU:=ae HU;have py:=fun w bw=>ae (Nt (A:=A) (n:=n0) (cp:=cp) hK hP (dm 1) (by decide:1≤3) w bw)
 have py:=ae py;clear hP hlen bw hn mX
 go_enter Tryz.func11,Tryz.ntmps11
 go_upto_region 1 with fail;have bU:=ae<|Box.fresh w 25 (ak c (.slice A n0 cp));have aX:=ae<|(ag.aj az w).alloc (.cells (ak c (.slice A n0 cp)) 25);have lL:=ae<|HI.keep aX;generalize w.alloc (.cells (ak c (.slice A n0 cp)) 25)=W1 at *;obtain⟨bb,Gp⟩:∃bb,bb=w.heap.size:=⟨_,rfl⟩;have Bl:=aB (w.heap.size≤bb) (Nat.le_of_eq Gp.symm);rw[←Gp]at bU ⊢;clear Gp HI;have HR:=py.out W1 lL;go_upto_region 4 with(first|(refine fH (ak c (.slice A n0 cp)) bU Tryz.underlying25 ?_)|(go_at_call 31;refine HR.mono ?_;rintro e W2 ⟨i,cb,mb,pz,rfl,kX,ZV,acW,ae6,acO,bp⟩));have cO:=ae<|bp.aq bU id;have Bj:=ae<|lL.keep bp;have bf:=ae<|aX.trans bp;have HC2:=ae kX;have HP2:=aB ((∀k,KO.F i k→w.heap.size≤k∧k<W2.heap.size)∧w.heap.size≤cb∧cb<W2.heap.size∧w.heap.size≤mb∧mb<W2.heap.size∧(∀k,vV KO i cb mb c pz (fun _=>none) k→k≠bb)∧(∀k,vV KO i cb mb c pz (fun _=>none) k→k<W2.heap.size)) (by
  have hsz:=aX.size;have Bc:=bU.lt;have h1:=kX.aq.lt;have h2:=kX.map.lt;have h3:=(KO.oc i).lt kX.ord;refine⟨fun k hk=>⟨Nat.le_trans hsz (ZV k hk),h3 k hk⟩,ao,h1,ao,h2,fun k hk=>?_,fun k hk=>kX.ad3 hk⟩;rcases hk with hk|hk|hk|⟨_,_,_,hk,_⟩|hk
  ·have:=ZV k hk;omega
  ·omega
  ·omega
  ·cases hk
  ·have:=acO hk.1 k hk.2;omega)
 clear bp bU lL aX HR kX ZV acW ae6 acO;have Rt:aE W2 bb 16 (.slice A n0 cp):=cO.af (fA c _);have wM:=ae<|Cw W2 Bj HL;go_upto_region 5 with(go_at_call 32;refine wM.mono ?_;rintro e W3 ⟨B,kJ,rfl,U7,cB,vm⟩;have dM:=ae<|cB.aq cO id;have Sn:aE W3 bb 16 (.slice A n0 cp):=cB.cell Rt id;have aaB:=dM.free 16);have hj4:ag (ar bb) W3 (W3.setCell ⟨bb,16,none⟩ (.slice B c.h.length kJ)):=(ag.aj (ar bb) W3).setCell (p:=⟨bb,16,none⟩) (.inl (show ar bb bb from rfl)) _;have hO4:ag az w (W3.setCell ⟨bb,16,none⟩ (.slice B c.h.length kJ)):=(bf.trans cB).setCell (p:=⟨bb,16,none⟩) (.inr Bl) _;have hB4:Box (W3.setCell ⟨bb,16,none⟩ (.slice B c.h.length kJ)) bb 25 (ak c (.slice B c.h.length kJ)):=dM.store 16 (.slice B c.h.length kJ);have hH4:aW (W3.setCell ⟨bb,16,none⟩ (.slice B c.h.length kJ)) B c.h.length kJ c.h:=U7.mH (S:=ar bb) hj4 fun _ k hk e=>by
  have h1:=vm k hk;have h2:=cO.lt;have h3:k=bb:=e;omega
 have hC4:cP KO i (W3.setCell ⟨bb,16,none⟩ (.slice B c.h.length kJ)) cb mb c pz 1 KO.s0 (fun _=>none):=(HC2.keep cB).ac5 hj4 (fun k hk=>HP2.2.2.2.2.2.1 k hk);have bK:=ae hO4;have iM:=ae hB4;have MB:=ae hH4;have wN:=ae hC4;have oK:=aB (W2.heap.size≤(W3.setCell ⟨bb,16,none⟩ (.slice B c.h.length kJ)).heap.size) (Nat.le_trans cB.size hj4.size);change Code.wp _ _ _ _ (W3.setCell ⟨bb,16,none⟩ (.slice B c.h.length kJ));have oh:=ae vm;clear hO4 hB4 hH4 U7 cB vm dM Sn aaB cO Bj bf Rt wM hC4 hj4 HC2;generalize W3.setCell ⟨bb,16,none⟩ (.slice B c.h.length kJ)=W4 at *;refine oa (fun w':World=>Box w' bb 25 (ak c (.slice B c.h.length kJ))∧ag az W4 w') 5 ?_ ?_
 ·first|exact⟨iM,(ag.aj az W4).drew⟩|exact⟨aH.1.alloc _,aH.2.alloc _⟩
 intro aH;refine cj (i:=0) (v:=.agg (ak c (.slice B c.h.length kJ))) bZ rfl bZ (fun _ _ _ h=>h) (yieldsIf_load_mid (by rfl) 25 _ rfl bb 0 rfl (ak c (.slice B c.h.length kJ)).toList _ (fun w hw j v hj=>by rw[Nat.zero_add];exact hw.1.af (by rw[←Array.getElem?_toList];exact hj)) Tryz.underlying25 rfl bZ) (by assumption) ?_;refine CW ?_;refine bX [1,2] ?_;refine cj (i:=3) (v:=ah n) bZ rfl bZ (fun _ _ _ h=>h) (Or.inl ⟨by rfl,fun w hSw=>?_⟩) (by assumption) ?_
 ·have x1:aw w bb 1 n:=(hSw.1.af (aL c _ (i:=1) aD)).trans (by rw[kD.out]);clear hSw;go_simp
 refine CW ?_;refine cM 4 fun K hK=>?_
 go_simp;rw[Gz.out];simp only[Result.andThen];refine jS hK ?_ fun aH=>?_
 ·first|exact⟨iM,(ag.aj az W4).drew⟩|exact⟨aH.1.alloc _,aH.2.alloc _⟩
 clear hK;refine cG ?_;obtain⟨sb,NF⟩:∃sb,sb=W4.drew.heap.size:=⟨_,rfl⟩;have iG:=ae aH.1;have cA:=aH.2;have NS:=aB (Box (W4.drew.alloc (.cells (mC n fun _=>EE) 92)) sb 92 (mC n fun _=>EE)) (NF▸Box.fresh W4.drew 92 (mC n fun _=>EE));have E3:=ae<|wN.keep cA;have MA:=ae<|MB.keep cA;have bM:=ae<|bK.trans cA;have HSB:=aB (W4.heap.size=sb∧(W4.drew.alloc (.cells (mC n fun _=>EE) 92)).heap.size=sb+1) (⟨NF.symm,by rw[World.size_alloc,←NF]⟩)
 try rw[show W4.heap.size=sb from NF.symm]
 try rw[←NF]
 clear aH cA NF;generalize(W4.drew.alloc (.cells (mC n fun _=>EE) 92))=W5 at *;refine gU rfl _ _ rfl [(0,.agg (ak c (.slice B c.h.length kJ))),(1,aO cb),(3,aU sb n n)] _ ?_ (PV c B c.h.length kJ cb sb n) ?_
 ·simp[Act.eval]
 go_upto_region 6 with fail;have N9:ag az W5 (W5.alloc (.cells (br c (.slice B c.h.length kJ) cb (.pointer none) (aU sb n n) 0 false aJ) 80)):=(ag.aj _ _).alloc _;have kI:=ae<|N9.aq iG id;have HS6:=ae<|N9.aq NS id;have HC6:=ae<|E3.keep N9;have HH6:=ae<|MA.keep N9;have cZ:=ae<|bM.trans N9;have HL6:=ae<|Box.fresh W5 80 (br c (.slice B c.h.length kJ) cb (.pointer none) (aU sb n n) 0 false aJ);obtain⟨l,hl⟩:∃l,l=W5.heap.size:=⟨_,rfl⟩;have Gd:=aB (W5.heap.size=l) (hl.symm);rw[←hl]at HL6 ⊢;clear N9 hl iG NS E3 MA bM;generalize W5.alloc (.cells (br c (.slice B c.h.length kJ) cb (.pointer none) (aU sb n n) 0 false aJ) 80)=W6 at *;have x9:aw W6 bb 9 (c.f 9):=kI.af (aL c _ (i:=9) aD);have vx:aw W6 bb 10 (c.f 10):=kI.af (aL c _ (i:=10) aD);have x11:aw W6 bb 11 (c.f 11):=kI.af (aL c _ (i:=11) aD);have Ag:=ae<|HU W6;go_upto_region 7 with(go_at_call 33;refine Ag.mono ?_;rintro e W7 ⟨u,g,eb,rfl,hu7,hs7,hu,hg,he,hgu,heu,dL⟩;have hx:aE W7 l 18 (.pointer none):=(dL.aq HL6 id).af rfl;have hxf:W7.frozen? ⟨l,18,none⟩=false:=(dL.aq HL6 id).free _);go_wp2_with fail;go_ret2;have j8:ag (ar l) W7 (W7.setCell ⟨l,18,none⟩ (aO u)):=(ag.aj (ar l) W7).setCell (p:=⟨l,18,none⟩) (.inl (show ar l l from rfl)) _;have hl8:=(dL.aq HL6 id).store 18 (aO u);rw[Ue]at hl8;have e1:=HSB.out;have e2:=Gd.out;have e3:=HL6.lt;have e4:=oK.out;have e5:=HP2.out;have hW:=(cZ.trans dL).aC j8 fun k hk=>.inr (show w.heap.size≤k from by
  have h1:k=l:=hk;have h2:=bK.size;omega)
 have hnl:∀k,vV KO i cb mb c pz (fun _=>none) k→k<sb:=fun k hk=>by have:=e5.2.2.2.2.2.2 k hk;omega
 refine⟨i,l,cb,mb,u,g,eb,sb,pz,.slice B c.h.length kJ,rfl,hl8,j8.aq (dL.aq HS6 id) (show¬sb=l by omega),(HC6.keep dL).ac5 j8 (fun k hk e=>by have h1:k=l:=e;have:=hnl k hk;omega),j8.aq hu7 (show¬u=l by omega),hs7.aA j8 (show¬g=l by omega) (show¬eb=l by omega),⟨B,c.h.length,kJ,rfl,(HH6.keep dL).mH j8 (fun h0 k hk e=>?_),fun h0 j hj=>⟨fun y hy=>Nat.lt_of_lt_of_le (e5.2.2.2.2.2.2 y hy) (oh j hj),by have:=MB.lt h0 hj;omega⟩⟩,fun k hk=>⟨(e5.1 k hk).1,hnl k (.inl hk)⟩,e5.2.1,hnl cb (.inr (.inl rfl)),e5.2.2.2.1,hnl mb (.inr (.inr (.inl rfl))),ao,ao,ao,ao,hW⟩;have h1:k=l:=e;have h2:=MB.lt h0 hk;omega
end
def CJ (x:Int×Int):List Value:=[ah x.1,ah x.2]
def dD (w:World)(base:Nat)(v:Value)(I:List (Int×Int)):Prop:=w.ownsRow base 146 2 v I.length (I.flatMap CJ)
theorem KX:(Tryz.prog.info? 146).map (fun i=>(i.zero,i.size,i.bytes))=some (some (.agg #[ah 0,ah 0]),2,16):=by kernel_rfl
theorem dD.cell {w:World}{base:Nat}{v:Value}{I:List (Int×Int)}(h:dD w base v I){k:Nat}(hk:k<I.length):
 ∃g c,v=aU g I.length c∧aw w g (k*2) ((I.getD k (0,0)).1)∧aw w g (k*2+1) ((I.getD k (0,0)).2):=by
 obtain⟨g,c,e,_,_,hc⟩:=pW h ao;refine⟨g,c,e,hc (k*2) _ ?_,hc (k*2+1) _ ?_⟩
 ·have:=mP CJ 2 (0,0) (fun _=>rfl) I k 0 hk aD;rw[Nat.add_zero]at this;exact this
 ·exact mP CJ 2 (0,0) (fun _=>rfl) I k 1 hk aD
theorem dD.shape {w:World}{base:Nat}{v:Value}{I:List (Int×Int)}(h:dD w base v I):∃A c,v= .slice A I.length c∧I.length≤c∧c≤maxLen:=cz h
theorem dD.aA {S:Nat→Prop}{w w':World}{base:Nat}{v:Value}{I:List (Int×Int)}(h:dD w base v I)(ho:ag S w w')(hn:∀k,aK v k→¬S k):dD w' base v I:=bk h ho hn
def mJ (v cv:Value):Array Value:=#[v,cv]
def aez (I:List (Int×Int))(l:Int)(nv iv:Value):Prop:=∃k:Nat,k≤I.length∧iv=ah k∧nv=ah (vM I l k)
def ad5 (I:List (Int×Int))(l:Int)(av iv:Value):Prop:=∃k:Nat,k≤I.length∧iv=ah k∧av=ah (vL I l k)
def aei (I:List (Int×Int))(b:Int)(iv:Value):Prop:=∃k:Nat,k≤I.length∧iv=ah k∧∀j,j<k→(I.getD j (0,0)).1≠b
section
variable {w:World}{sb base:Nat}{v cv:Value}{I:List (Int×Int)}
theorem pV {b:Int}{q:Nat}(hb:Box w sb 140 (mJ v cv))(hi:dD w base v I)(AD:I.length≤100)(hq:q<I.length)(h1:(I.getD q (0,0)).1=b)(h2:∀j,j<q→(I.getD j (0,0)).1≠b):
 Calls Tryz.prog 78 #[aO sb,ah b] w fun e w'=>e= .returned (ah q)∧w=w':=by
 have HI:=ae hi;obtain⟨A,c,rfl,_,_⟩:=hi.shape;have k0:aE w sb 0 (.slice A I.length c):=hb.af rfl;have HQ:=ae hq;have H1:=ae h1;have H2:=ae h2;have hl:(I.length:Int)≤100:=ao;clear hb hi hq h1 h2
 go_enter Tryz.func78,Tryz.ntmps78
 go_wp2
 go_loop [5] (fun iv=>aei I b iv∧∃k:Nat,iv=ah k∧k≤q) (fun iv=>I.length - (intOf iv).toNat)
 case atStart=>exact⟨⟨0,dT _,rfl,fun j hj=>absurd hj (Nat.not_lt_zero _)⟩,0,rfl,dT _⟩
 case round=>
  obtain⟨⟨k,hk,rfl,iQ⟩,k',e',QM⟩:=hrel;obtain rfl:k=k':=by injection e' with _ e';omega
  have aY:k<I.length:=by have:=HQ.out;omega
  obtain⟨g,c',e,vB,kX⟩:=HI.cell aY;injection e with e _ _;subst e;have HL:=aB (k<I.length∧k≤q) (⟨aY,QM⟩);have yr:=ae iQ;have EO:(0:Int)≤(k:Int):=Int.natCast_nonneg k;have C0:(k:Int)<(I.length:Int):=ao;clear iQ kX hk e'
  by_cases hx:(I.getD k (0,0)).1=b
  ·have EI:((I.getD k (0,0)).1==b)=true:=by simpa using hx
   have Rq:k=q:=by
    rcases Nat.lt_or_ge k q with h|h
    ·exact absurd hx (H2 k h)
    ·omega
   have HKQ:=ae Rq;clear hx Rq aY QM;generalize(I.getD k (0,0)).1=x at *;go_wp2;go_ret;exact⟨by rw[←HKQ.out];rfl,rfl⟩
  ·have EI:((I.getD k (0,0)).1==b)=false:=by simpa using hx
   have Rq:k<q:=by
    rcases Nat.lt_or_ge k q with h|h
    ·exact h
    ·have:k=q:=ao;subst this;exact absurd H1 hx
   have HKQ:=ae Rq;have HX:=ae hx;clear hx Rq aY QM;generalize(I.getD k (0,0)).1=x at *;go_wp2
   go_round
   case rel=>exact⟨⟨k+1,HL.1,by go_num,fun j hj=>by
    by_cases e:j=k
    ·subst e;intro e2;have:=H2.out j HKQ.out;exact this e2
    ·exact yr j ao⟩,k+1,by go_num,HKQ⟩
   case measure=>simp[intOf];have:=HL.out;omega
theorem lV{P:Prop}(h:P:=by
 obtain rfl:k=I.length:=ao;clear aY hk;go_wp2;go_ret;exact⟨rfl,rfl⟩):P:=h
theorem pU {b:Int}(hb:Box w sb 140 (mJ v cv))(hi:dD w base v I)(AD:I.length≤100)(h2:∀j,j<I.length→(I.getD j (0,0)).1≠b):
 Calls Tryz.prog 78 #[aO sb,ah b] w fun e w'=>e= .returned (ah (-1))∧w=w':=by
 have HI:=ae hi;obtain⟨A,c,rfl,_,_⟩:=hi.shape;have k0:aE w sb 0 (.slice A I.length c):=hb.af rfl;have H2:=ae h2;have hl:(I.length:Int)≤100:=ao;clear hb hi h2
 go_enter Tryz.func78,Tryz.ntmps78
 go_wp2
 go_loop [5] (fun iv=>∃k:Nat,iv=ah k∧k≤I.length) (fun iv=>I.length - (intOf iv).toNat)
 case atStart=>exact⟨0,rfl,dT _⟩
 case round=>
  obtain⟨k,rfl,hk⟩:=hrel
  by_cases aY:k<I.length
  ·obtain⟨g,c',e,vB,kX⟩:=HI.cell aY;injection e with e _ _;subst e;have HL:=ae aY;have EO:(0:Int)≤(k:Int):=Int.natCast_nonneg k;have C0:(k:Int)<(I.length:Int):=ao;have EI:((I.getD k (0,0)).1==b)=false:=by simpa using H2.out k aY
   clear kX hk aY;generalize(I.getD k (0,0)).1=x at *;go_wp2
   go_round
   case rel=>exact⟨k+1,by go_num,HL⟩
   case measure=>simp[intOf];have:=HL.out;omega
  ·exact lV
theorem l6{P:Prop}(h:P:=by
 clear vB hk aY hx oE;generalize(I.getD k (0,0)).2=x at *;go_wp2
 go_round
 case rel=>exact⟨k+1,HL,by go_num,by rw[HX.out]⟩
 case measure=>simp[intOf];have:=HL.out;omega):P:=h
theorem D7 {l:Int}(hb:Box w sb 140 (mJ v cv))(hi:dD w base v I)(AD:I.length≤100):
 Calls Tryz.prog 79 #[aO sb,ah l] w fun e w'=>e= .returned (ah (vM I l I.length))∧w=w':=by
 have HI:=ae hi;obtain⟨A,c,rfl,_,_⟩:=hi.shape;have k0:aE w sb 0 (.slice A I.length c):=hb.af rfl;have hl:(I.length:Int)≤100:=ao;clear hb hi
 go_enter Tryz.func79,Tryz.ntmps79
 go_wp2
 go_loop [5,6] (fun nv iv=>aez I l nv iv) (fun _ iv=>I.length - (intOf iv).toNat)
 case atStart=>exact⟨0,dT _,rfl,rfl⟩
 case round=>
  obtain⟨k,hk,rfl,rfl⟩:=hrel
  by_cases aY:k<I.length
  ·obtain⟨g,c',e,vB,kX⟩:=HI.cell aY;injection e with e _ _;subst e;have HL:=ae aY;have EO:(0:Int)≤(k:Int):=Int.natCast_nonneg k;have C0:(k:Int)<(I.length:Int):=ao;have kG:vM I l (k+1)=vM I l k+if(I.getD k (0,0)).2=l then 1 else 0:=rfl;have oE:=ae kG;have hle:=Nj I l k;have ae9:(vM I l k:Int)≤100:=ao;clear kG hle
   by_cases hx:(I.getD k (0,0)).2=l
   ·have EI:((I.getD k (0,0)).2==l)=true:=by simpa using hx
    have HX:=ae (show vM I l (k+1)=vM I l k+1 by rw[oE.out,if_pos hx]);clear vB hk aY hx oE;generalize(I.getD k (0,0)).2=x at *;go_wp2
    go_round
    case rel=>exact⟨k+1,HL,by go_num,by rw[HX.out];go_num⟩
    case measure=>simp[intOf];have:=HL.out;omega
   ·have EI:((I.getD k (0,0)).2==l)=false:=by simpa using hx
    have HX:=ae (show vM I l (k+1)=vM I l k by rw[oE.out,if_neg hx,Nat.add_zero]);exact l6
  ·exact lV
theorem Iw {l:Int}(hb:Box w sb 140 (mJ v cv))(hi:dD w base v I)(AD:I.length≤100):
 Calls Tryz.prog 80 #[aO sb,ah l] w fun e w'=>e= .returned (ah (vL I l I.length))∧w=w':=by
 have HI:=ae hi;obtain⟨A,c,rfl,_,_⟩:=hi.shape;have k0:aE w sb 0 (.slice A I.length c):=hb.af rfl;have hl:(I.length:Int)≤100:=ao;clear hb hi
 go_enter Tryz.func80,Tryz.ntmps80
 go_wp2
 go_loop [5,6] (fun av iv=>ad5 I l av iv) (fun _ iv=>I.length - (intOf iv).toNat)
 case atStart=>exact⟨0,dT _,rfl,rfl⟩
 case round=>
  obtain⟨k,hk,rfl,rfl⟩:=hrel
  by_cases aY:k<I.length
  ·obtain⟨g,c',e,vB,kX⟩:=HI.cell aY;injection e with e _ _;subst e;have HL:=ae aY;have EO:(0:Int)≤(k:Int):=Int.natCast_nonneg k;have C0:(k:Int)<(I.length:Int):=ao;have kG:vL I l (k+1)=if(I.getD k (0,0)).2=l then(k:Int)else vL I l k:=rfl;have oE:=ae kG;clear kG
   by_cases hx:(I.getD k (0,0)).2=l
   ·have EI:((I.getD k (0,0)).2==l)=true:=by simpa using hx
    have HX:=ae (show vL I l (k+1)=(k:Int) by rw[oE.out,if_pos hx]);exact l6
   ·have EI:((I.getD k (0,0)).2==l)=false:=by simpa using hx
    have HX:=ae (show vL I l (k+1)=vL I l k by rw[oE.out,if_neg hx]);exact l6
  ·exact lV
end
theorem Nh (I:List (Int×Int))(a:Int):∀k,(AY I a k).length≤k
 |0=>Nat.le_refl _
 |k+1=>by
  have:=Nh I a k;rw[AY]
  split
  ·omega
  ·rw[List.length_append];simp;omega
def aes (I:List (Int×Int))(a:Int)(w:World)(ov iv:Value)(wr:World):Prop:=∃k:Nat,k≤I.length∧iv=ah k∧dD wr w.heap.size ov (AY I a k)∧ag az w wr
theorem dD.take {w:World}{base m c:Nat}{A:Option Addr}{I:List (Int×Int)}(h:dD w base (.slice A I.length c) I)(hm:m≤I.length):dD w base (.slice A m c) (I.take m):=by
 have hl:(I.take m).length=m:=by rw[List.length_take,Nat.min_eq_left hm]
 have hf:∀J:List (Int×Int),(J.flatMap CJ).length=J.length*2:=fun J=>by
  induction J with
  |nil=>rfl
  |cons a J ih=>rw[List.flatMap_cons,List.length_append,ih,List.length_cons];show 2+_=_;omega
 have ht:∀(J:List (Int×Int)) (m:Nat),(J.flatMap CJ).take (m*2)=(J.take m).flatMap CJ:=by
  intro J
  induction J with
  |nil=>intro m;simp
  |cons a J ih=>
   intro m
   cases m with
   |zero=>simp
   |succ m=>
    rw[List.flatMap_cons,List.take_succ_cons,List.flatMap_cons,←ih m];rw[show(m+1)*2=(CJ a).length+m*2 by show _=2+m*2;omega,List.take_length_add_append]
 unfold dD;rw[hl];rcases h.2 with⟨e,h0⟩|⟨g,cap,cur,e,hb,hg,hn,hx,hs,h2⟩
 ·injection e with e1 e2 e3;subst e1 e3;obtain rfl:m=0:=ao;exact World.ownsRow_nil _ _ _ _
 ·injection e with e1 e2 e3;subst e1 e3;exact⟨by rw[hf,hl],.inr ⟨g,c,cur,rfl,hb,hg,ao,hx,hs,by rw[←ht,←h2,List.take_take,Nat.min_eq_left ao]⟩⟩
def rowLen (sb:Nat)(w:World):Nat:=match w.cell? ⟨sb,0,none⟩with
 |some (.slice _ n _)=>n
 |_=>0
def aeh (R:List (Int×Int))(sb base:Nat)(A:Option Addr)(c:Nat)(cv:Value)(w wr:World):Prop:=
 ∃(f:Nat) (I:List (Int×Int)),Box wr sb 140 (mJ (.slice A I.length c) cv)∧dD wr base (.slice A I.length c) I∧I.length≤f∧I.length≤100∧ia f I=R∧ag (ar sb) w wr
section
variable {w:World}{sb base:Nat}{v cv:Value}{I:List (Int×Int)}
theorem Jg {a:Int}(hb:Box w sb 140 (mJ v cv))(hi:dD w base v I)(AD:I.length≤100):
 Calls Tryz.prog 77 #[aO sb,ah a] w fun e w'=>∃o,e= .returned o∧dD w' w.heap.size o (AY I a I.length)∧ag az w w':=by
 have HI:=ae hi;have HB:=ae hb;obtain⟨A,c,rfl,_,_⟩:=hi.shape;have hl:(I.length:Int)≤100:=ao;have zJ:=ae AD;clear hb hi AD
 go_enter Tryz.func77,Tryz.ntmps77
 go_wp2
 go_loopw [5,6] (fun ov iv wr=>aes I a w ov iv wr) (fun _ iv _=>I.length - (intOf iv).toNat)
 case atStart=>exact⟨0,dT _,rfl,World.ownsRow_nil _ _ _ _,ag.aj _ _⟩
 case round=>
  obtain⟨k,hk,rfl,hr,ho⟩:=hrel;have HR:=ae hr;have HO:=ae ho;have bU:=ae<|ho.aq HB id;have lL:=ae<|HI.aA ho fun _ _ e=>e;have k0:aE wr sb 0 (.slice A I.length c):=bU.af rfl
  by_cases aY:k<I.length
  ·obtain⟨g,c',e,vB,kX⟩:=lL.cell aY;injection e with e _ _;subst e;have HL:=ae aY;have EO:(0:Int)≤(k:Int):=Int.natCast_nonneg k;have C0:(k:Int)<(I.length:Int):=ao;have oE:=aB (AY I a (k+1)=if(k:Int)=a then AY I a k else AY I a k ++ [I.getD k (0,0)]) (rfl)
   by_cases hx:(k:Int)=a
   ·have EI:((k:Int) != a)=false:=by simpa using hx
    have HX:=ae (show AY I a (k+1)=AY I a k by rw[oE.out,if_pos hx]);clear vB kX hk aY hr ho oE hx;go_wp2
    go_roundw
    case rel=>exact⟨k+1,HL,by go_num,by rw[HX.out];exact HR,HO⟩
    case measure=>simp[intOf];have:=HL.out;omega
   ·have EI:((k:Int) != a)=true:=by simpa using hx
    have HX:=ae (show AY I a (k+1)=AY I a k ++ [I.getD k (0,0)] by rw[oE.out,if_neg hx]);have Gd:=ae<|Nh I a k;obtain⟨OA,oc,rfl,_,_⟩:=hr.shape;have oK:=ae ho.size;clear hk aY hr ho oE hx;generalize I.getD k (0,0)=x at *;obtain⟨x1,x2⟩:=x;generalize AY I a k=J at *;go_upto_region 6 with fail;go_wp2_with (at_builtin;refine ef _ rfl (.tmp 19) (.tmp 27) 138 146 rfl KX rfl aD Tryz.underlying138 w.heap.size (.slice OA J.length oc) J.length _ (CJ (x1,x2)) rfl (World.ownsRow.alloc HR _) ⟨wr.heap.size,0,none⟩ rfl rfl (cV wr (CJ (x1,x2)) _) (by simp[CJ,Value.oneCell']) (by unfold maxLen;have:=Gd.out;have:=HL.out;have:=zJ.out;omega) (by have:=Gd.out;have:=HL.out;have:=zJ.out;omega) (by rw[World.size_alloc];have:=oK.out;omega) ?_;intro v6 W6 h6 bT _;have JQ:=ae h6;have cZ:=ae bT;clear h6 bT)
    go_roundw
    case rel=>
     refine⟨k+1,HL,by go_num,?_,(HO.trans ((ag.aj az wr).alloc _)).aC cZ fun j hj=>.inr (World.ownsRow.lt HR j hj).1⟩
     show World.ownsRow _ _ _ _ _ (AY I a (k+1)).length ((AY I a (k+1)).flatMap CJ)
     rw[HX.out,List.length_append,List.flatMap_append];simpa using JQ.out
    case measure=>simp[intOf];have:=HL.out;omega
  ·obtain rfl:k=I.length:=ao;clear aY hk;go_wp2;go_ret;exact⟨_,rfl,HR,HO⟩
theorem OT {A:Option Addr}{c:Nat}(hb:Box w sb 140 (mJ (.slice A I.length c) cv))(hi:dD w base (.slice A I.length c) I)(AD:I.length≤100)(hn:∀k,aK (.slice A I.length c) k→k≠sb):
 Calls Tryz.prog 81 #[aO sb] w fun e w'=>e= .returned (.tuple #[])∧∃n,Box w' sb 140 (mJ (.slice A n c) cv)∧dD w' base (.slice A n c) (ia I.length I)∧ag (ar sb) w w':=by
 have HI:=ae hi;have HB:=ae hb;have HN:=ae hn;have zJ:=ae AD;obtain⟨R,hR⟩:∃R,R=ia I.length I:=⟨_,rfl⟩;rw[←hR];have tw:=ae hR;clear hb hi AD hn hR
 go_enter Tryz.func81,Tryz.ntmps81
 go_wp2
 go_loopw [] (fun wr=>aeh R sb base A c cv w wr) (fun wr=>rowLen sb wr)
 case atStart=>exact⟨_,I,HB,HI,dm _,zJ,tw.symm,ag.aj _ _⟩
 case round=>
  obtain⟨f,J,fB,C4,hf,VQ,hr,ho⟩:=hrel;have lL:=ae C4;have bU:=ae fB;have HO:=ae ho;have HR:=ae hr;have HF:=ae hf;have agk:=ae VQ;have k0:aE wr sb 0 (.slice A J.length c):=fB.af rfl;have hl:(J.length:Int)≤100:=ao;have hl0:(0:Int)≤(J.length:Int):=Int.natCast_nonneg _;have HRL:=ae (show rowLen sb wr=J.length by unfold rowLen;rw[k0])
  by_cases hne:J= []
  ·subst hne;clear fB C4 hf VQ hr ho;have kk:aE wr.drew sb 0 (.slice A 0 c):=k0;have hd:decide (((0:Nat):Int)<0)=false:=aD;go_upto_region 0 with fail;refine oa (fun w':World=>aE w' sb 0 (.slice A 0 c)) 21 ?_ ?_
   ·exact(by assumption)
   intro aH;refine yd [0,1,2,3,4,5,6,7,8,9,10,11,12,13,14,15,16,17,18,19,20] ?_;refine cG ?_;go_wp2;refine bodyPost_end (results_none rfl _ _ _) rfl ?_;have kG:ia f []= []:=by
    cases f with
    |zero=>rfl
    |succ f=>rw[ia,if_neg (fun e=>e.1 rfl)]
   rw[kG]at HR;refine⟨rfl,_,bU,?_,HO.drew⟩;rw[←HR.out];exact lL
  ·have s6:0<J.length:=List.length_pos_iff.2 hne;obtain⟨k,hk⟩:∃k,k=J.length - 1:=⟨_,rfl⟩;have ox:J.length≤c∧c≤maxLen:=by
    obtain⟨A1,c1,e,h1,h2⟩:=C4.shape;injection e with _ _ e3;rw[e3];exact⟨h1,h2⟩
   have hkc:k≤c:=ao;obtain⟨g,c',e,vB,kX⟩:=C4.cell (k:=k) ao;injection e with e _ e3;obtain rfl:=e3;subst e;have hd:decide (0<J.length)=true:=decide_eq_true s6;have hw:IntKind.i64.wrap ((J.length:Int) - 1)=(k:Int):=by rw[IntKind.wrap_i64];omega
   have C0:(k:Int)<(J.length:Int):=ao;have EO:(0:Int)≤(k:Int):=Int.natCast_nonneg _;have yu:=ae hne;have HK:=ae (show J.length=k+1 by omega);have adC:=ae ox;have RT:=ae s6
   by_cases h4:(J.getD k (0,0)).2=4
   ·rw[h4]at kX;have H4:=ae h4;have kk:aE wr.drew sb 0 (aU g J.length c):=k0;have kc:aw wr.drew g (k*2+1) 4:=kX;clear fB C4 hf VQ hr ho hne h4 vB hk ox;go_upto_region 0 with fail;refine dU (fun w':World=>aE w' sb 0 (aU g J.length c)∧aw w' g (k*2+1) 4) 21 fun aH=>?_
    refine bX [0,1,2,3,4,5,6,7,8,9,10,11,12,13,14,15,16,17,18,19,20] ?_;refine cG ?_;have kk2:aE wr.drew.drew sb 0 (aU g J.length c):=k0;go_upto_region 1 with fail;refine oa (fun w':World=>aE w' sb 0 (aU g J.length c)) 14 ?_ ?_
    ·exact(by assumption)
    intro aH;refine bX [0,1,2,3,4,5,6,7,8,9,10,11,12,13] ?_;refine cG ?_;have f1:wr.drew.drew.frozen? ⟨sb,0,none⟩=false:=bU.free _;go_wp2
    go_roundw
    case rel=>
     obtain⟨f',rfl⟩:∃f',f=f'+1:=⟨f - 1,by have:=HF.out;have:=RT.out;omega⟩;have kG:ia (f'+1) J=ia f' (J.take k):=by rw[ia,if_pos ⟨yu.out,by rw[HK.out,Nat.add_sub_cancel];exact H4.out⟩,HK.out,Nat.add_sub_cancel]
     have hlen:(J.take k).length=k:=by rw[List.length_take,HK.out];omega
     have bp:ag (ar sb) wr (wr.drew.drew.setCell ⟨sb,0,none⟩ (aU g k c)):=((ag.aj (ar sb) wr).drew.drew).setCell (p:=⟨sb,0,none⟩) (.inl (show ar sb sb from rfl)) _;refine⟨f',J.take k,?_,?_,by rw[hlen];have:=HF.out;have:=HK.out;omega,by rw[hlen];have:=agk.out;have:=HK.out;omega,by rw[←kG];exact HR,HO.trans bp⟩
     ·rw[hlen];exact(show Box wr.drew.drew sb 140 _ from bU).store 0 _
     ·rw[hlen];exact(lL.take (m:=k) (by have:=HK.out;omega)).aA bp fun q hq e=>HN g (aG.2 rfl) ((aG.1 hq).trans (show q=sb from e))
    case measure=>
     have gX:=(show Box wr.drew.drew sb 140 _ from bU).store 0 (aU g k c);have hcx:aE (wr.drew.drew.setCell ⟨sb,0,none⟩ (aU g k c)) sb 0 (aU g k c):=gX.af rfl;have h9:rowLen sb (wr.drew.drew.setCell ⟨sb,0,none⟩ (aU g k c))=k:=by unfold rowLen;rw[hcx]
     show rowLen sb (wr.drew.drew.setCell ⟨sb,0,none⟩ (aU g k c))<rowLen sb wr
     rw[h9,HRL.out];have:=HK.out;omega
   ·have H4:=ae h4;have h4b:((J.getD k (0,0)).2==4)=false:=by simpa using h4
    clear fB C4 hf VQ hr ho hne s6 h4 vB hk ox;generalize hx:(J.getD k (0,0)).2=x at *;have HX:=ae hx;clear hx;have kk:aE wr.drew sb 0 (aU g J.length c):=k0;have kc:aw wr.drew g (k*2+1) x:=kX;go_upto_region 0 with fail;refine dU (fun w':World=>aE w' sb 0 (aU g J.length c)∧aw w' g (k*2+1) x) 21 fun aH=>?_
    refine bX [0,1,2,3,4,5,6,7,8,9,10,11,12,13,14,15,16,17,18,19,20] ?_;refine cG ?_;go_wp2;refine bodyPost_end (results_none rfl _ _ _) rfl ?_;have kG:ia f J=J:=by
     cases f with
     |zero=>rfl
     |succ f=>rw[ia,if_neg (fun e=>by have:=e.2;rw[HK.out,Nat.add_sub_cancel,HX.out]at this;exact H4.out this)]
    rw[kG]at HR;refine⟨rfl,J.length,bU,?_,HO.drew⟩;rw[←HR.out];exact lL
end
theorem xQ:∀{L:List Int} {b:Int},b∈L→∃q,q<L.length∧L.getD q 0=b∧∀j,j<q→L.getD j 0≠b
 | [],b,h=>by simp at h
 |a :: L,b,h=>by
  by_cases e:a=b
  ·exact⟨0,by simp,e,fun j h=>absurd h (Nat.not_lt_zero _)⟩
  ·obtain⟨q,h1,h2,h3⟩:=xQ (L:=L) ((List.mem_cons.1 h).resolve_left fun e2=>e e2.symm);refine⟨q+1,by simpa using h1,h2,fun j hj=>?_⟩
   cases j with
   |zero=>exact e
   |succ j=>exact h3 j ao
def BK (w:World)(cb:Nat)(cp:Nat→Int):Prop:=∀l:Nat,1≤l→l≤3→aw w cb l (cp l)
theorem BK.aA {X:Nat→Prop}{w w':World}{cb:Nat}{cp:Nat→Int}(h:BK w cb cp)(ho:ag X w w')(hn:¬X cb):BK w' cb cp:=fun l h1 h3=>ho.cell (h l h1 h3) hn
section
variable {w:World}{sb base cb cc:Nat}{v:Value}{cp:Nat→Int}{S:US}
theorem qK{P:Prop}(h:P:=by
 refine cG ?_;go_wp2
 go_roundw
 case rel=>exact⟨l+1,ao,by have:=oL.out;omega,by push_cast;rfl,zU.step yr HMY,HO.drew⟩
 case measure=>simp[intOf];omega):P:=h
theorem qo{P:Prop}(h:P:=by
 refine cG ?_;go_wp2;go_ret;exact⟨by rw[Bq.out,xC yr.out HL.1 oL.out HMY.out];rfl,HO.drew⟩):P:=h
theorem cU{P:Prop}(h:P:=by first|(simp[Region.wanted,yielded];done)|(simp[Region.wanted,yielded];intro h;cases h)):P:=h
theorem TB {b:Int}(hb:Box w sb 140 (mJ v (aU cb 4 cc)))(hi:dD w base v (gT S))(hc:BK w cb cp)(AD:S.L.length≤100):
 Calls Tryz.prog 76 #[aO sb,ah b] w fun e w'=>e= .returned (ah (ek cp S b))∧ag az w w':=by
 have HB:=ae hb;have HI:=ae hi;have HC:=ae hc;have nA:=ae AD;have G0:=ae (show(gT S).length≤100 by rw[bS];exact AD);obtain⟨res,nJ⟩:∃r,r=ek cp S b:=⟨_,rfl⟩;rw[←nJ];have Bq:=ae nJ;clear nJ
 by_cases hm:b∈S.L
 ·obtain⟨q,hq,U3,hqn⟩:=xQ hm;have HP:=ae (pV (b:=b) (q:=q) hb hi G0 (by rw[bS];exact hq) (by rw[fR S hq];exact U3) fun j hj=>by rw[fR S ao];exact hqn j hj);have HQ:=aB (q<S.L.length∧S.L.getD q 0=b∧∀j,j<q→S.L.getD j 0≠b) (⟨hq,U3,hqn⟩);have wI:(0:Int)≤(q:Int):=Int.natCast_nonneg q;have hqd:decide ((q:Int)<0)=false:=by simp
  have uS:=ae hm;clear hq U3 hqn hm hb hi hc AD
  go_enter Tryz.func76,Tryz.ntmps76
  go_upto_region 2 with(go_at_call 78;refine HP.mono ?_;rintro e W1 ⟨rfl,rfl⟩);go_wp2
  go_loopw [6] (fun iv wr=>zU cp S b w iv wr) (fun iv _=>4 - (intOf iv).toNat)
  case atStart=>exact⟨1,dm _,ao,rfl,fun j h1 h2=>absurd h2 ao,ag.aj _ _⟩
  case round=>
   obtain⟨l,h1,h4,rfl,iQ,ho⟩:=hrel;have yr:=ae iQ;have HO:=ae ho;have HL:=aB (1≤l∧l≤4) (⟨h1,h4⟩);have bU:=ae<|ho.aq HB id;have lL:=ae<|HI.aA ho fun _ _ e=>e;clear iQ ho
   by_cases hl:l=4
   ·exact mf
   ·have ZJ:(l:Int)≤3:=ao;have oL:=ae (show l≤3 by omega);have HY:=Iw (l:=(l:Int)) (show Box wr.drew sb 140 _ from bU) (show dD wr.drew base v (gT S)from lL) G0;rw[bS]at HY;have HM:=ae (show sW cp S b l=decide ((q:Int)≤vL (gT S) l S.L.length) by
     show(if b∈S.L then P7 S b l else _)=_
     rw[if_pos uS.out,abp HQ.1 HQ.2.1 HQ.2.2])
    clear h1 h4 hl;generalize vL (gT S) l S.L.length=y at *;have HY:=ae HY
    by_cases hy:(q:Int)≤y
    ·have QI:decide ((q:Int)≤y)=true:=decide_eq_true hy;have HMY:=ae (show sW cp S b l=true by rw[HM.out];exact QI);go_upto_region 5 with fail;refine oa (fun _:World=>True) 25 ?_ ?_
     ·exact trivial
     intro aH;refine yd [0,1,2,3,4,6,7,8,9,10,11,12] ?_;refine cM 5 fun Kc hK=>?_
     rw[if_neg cU];refine jS hK ?_ fun aH=>?_
     ·exact trivial
     clear hK;refine yd [13,14,15,16,17,18,19,20,22] ?_;refine cM 21 fun Kc hK=>?_
     go_simp
     go_at_call 80
     refine HY.mono ?_;rintro e W2 ⟨rfl,rfl⟩;refine jS hK ?_ fun aH=>?_
     ·exact trivial
     clear hK;refine bX [23,24] ?_;exact qo
    ·have QI:decide ((q:Int)≤y)=false:=decide_eq_false hy;have hyl:y<(q:Int):=ao;have HMY:=ae (show sW cp S b l=false by rw[HM.out];exact QI);go_upto_region 5 with fail;refine oa (fun _:World=>True) 25 ?_ ?_
     ·exact trivial
     intro aH;refine yd [0,1,2,3,4,6,7,8,9,10,11,12] ?_;refine cM 5 fun Kc hK=>?_
     rw[if_neg cU];refine jS hK ?_ fun aH=>?_
     ·exact trivial
     clear hK;refine yd [13,14,15,16,17,18,19,20,22] ?_;refine cM 21 fun Kc hK=>?_
     go_simp
     go_at_call 80
     refine HY.mono ?_;rintro e W2 ⟨rfl,rfl⟩;refine jS hK ?_ fun aH=>?_
     ·exact trivial
     clear hK;refine bX [23,24] ?_;exact qK
 ·have HP:=ae (pU (b:=b) hb hi G0 fun j hj=>by rw[bS]at hj;rw[fR S hj];intro e;exact hm (by rw[←e];show S.L.getD j 0∈S.L;rw[List.getD_eq_getElem?_getD,List.getElem?_eq_getElem hj];exact List.getElem_mem hj));have uS:=ae hm;clear hm hb hi hc AD
  go_enter Tryz.func76,Tryz.ntmps76
  go_upto_region 2 with(go_at_call 78;refine HP.mono ?_;rintro e W1 ⟨rfl,rfl⟩);go_wp2
  go_loopw [6] (fun iv wr=>zU cp S b w iv wr) (fun iv _=>4 - (intOf iv).toNat)
  case atStart=>exact⟨1,dm _,ao,rfl,fun j h1 h2=>absurd h2 ao,ag.aj _ _⟩
  case round=>
   obtain⟨l,h1,h4,rfl,iQ,ho⟩:=hrel;have yr:=ae iQ;have HO:=ae ho;have HL:=aB (1≤l∧l≤4) (⟨h1,h4⟩);have bU:=ae<|ho.aq HB id;have lL:=ae<|HI.aA ho fun _ _ e=>e;have HC1:=ae<|HC.aA ho fun e=>e;clear iQ ho
   by_cases hl:l=4
   ·exact mf
   ·have ZJ:(l:Int)≤3:=ao;have oL:=ae (show l≤3 by omega);have hl0:(0:Int)≤(l:Int):=Int.natCast_nonneg l;have hl5:(l:Int)<4:=ao;have afb:l<4:=ao;have HY:=D7 (l:=(l:Int)) (show Box wr.drew sb 140 _ from bU) (show dD wr.drew base v (gT S)from lL) G0;rw[bS,Nk]at HY;have HM:=ae (show sW cp S b l=decide ((gg S l:Int)<cp l) by
     show(if b∈S.L then _ else decide ((gg S l:Int)<cp l))=_
     rw[if_neg uS.out])
    have k1:aw wr.drew cb l (cp l):=HC1.out l HL.1 oL;have k2:aE wr.drew sb 1 (aU cb 4 cc):=bU.af rfl;clear h1 h4 hl;generalize cp l=x at *;generalize(gg S l:Int)=y at *;have HY:=ae HY
    by_cases hy:y<x
    ·have QI:decide (y<x)=true:=decide_eq_true hy;have HMY:=ae (show sW cp S b l=true by rw[HM.out];exact QI);go_upto_region 5 with fail;refine dU (fun w':World=>aw w' cb l x∧aE w' sb 1 (aU cb 4 cc)) 25 fun aH=>?_
     refine bX [0,1,2,3,4,6,7,8,9,10,11,12] ?_;refine cM 5 fun Kc hK=>?_
     go_simp
     go_at_call 79
     refine HY.mono ?_;rintro e W2 ⟨rfl,rfl⟩;refine eh hK fun aH=>?_
     clear hK;refine yd [13,14,15,16,17,18,19,20,22] ?_;refine cM 21 fun Kc hK=>?_
     rw[if_neg cU];refine eh hK fun aH=>?_
     clear hK;refine wAx [23,24] ?_;exact qo
    ·have QI:decide (y<x)=false:=decide_eq_false hy;have hyl:x≤y:=ao;have HMY:=ae (show sW cp S b l=false by rw[HM.out];exact QI);go_upto_region 5 with fail;refine dU (fun w':World=>aw w' cb l x∧aE w' sb 1 (aU cb 4 cc)) 25 fun aH=>?_
     refine bX [0,1,2,3,4,6,7,8,9,10,11,12] ?_;refine cM 5 fun Kc hK=>?_
     go_simp
     go_at_call 79
     refine HY.mono ?_;rintro e W2 ⟨rfl,rfl⟩;refine eh hK fun aH=>?_
     clear hK;refine yd [13,14,15,16,17,18,19,20,22] ?_;refine cM 21 fun Kc hK=>?_
     rw[if_neg cU];refine eh hK fun aH=>?_
     clear hK;refine yd [23,24] ?_;exact qK
end
end
end Go.Proofs.YtchofaecncibjaaGreat

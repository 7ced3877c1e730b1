/- Lemmas. -/
import Derived.Test.YtpcfhbeakecihaaGreatM10
import Derived.Test.YtpcfhbeakecihaaGreatM22
set_option linter.all false
set_option maxHeartbeats 20000000
set_option maxRecDepth 100000
namespace Go.Proofs.YtpcfhbeakecihaaGreat
section
open Go.ChangeShapes Go.RowKit Go.WideShapes
def eP (c:aQ)(hv:Value)(aP:Nat)(t:TypeId)(x:Value)(mb:Nat):Array Value:=ao c hv ++ #[ah aP,.iface t x,.map (some mb)]
theorem gB{P:Prop}(h:P:=by
 rw[Array.getElem?_append_left (by show i<17;omega)];exact aL c hv hi):P:=h
theorem xQ (c:aQ)(hv:Value)(aP:Nat)(t:TypeId)(x:Value)(mb:Nat){i:Nat}(hi:i<16):(eP c hv aP t x mb)[i]? =some (ah (c.f i)):=by
 unfold eP;exact gB
theorem MK (c:aQ)(hv:Value)(aP:Nat)(t:TypeId)(x:Value)(mb:Nat):(eP c hv aP t x mb)[17]? =some (ah aP):=rfl
theorem xO (c:aQ)(hv:Value)(aP:Nat)(t:TypeId)(x:Value)(mb:Nat):(eP c hv aP t x mb)[18]? =some (.iface t x):=rfl
theorem xP (c:aQ)(hv:Value)(aP:Nat)(t:TypeId)(x:Value)(mb:Nat):(eP c hv aP t x mb)[19]? =some (.map (some mb)):=rfl
abbrev ll:=List Int×Value
def xA (D:Int→Option ll):Int→Option Value:=fun b=>(D b).map Prod.snd
def KH (w:World)(v:Value)(l:List Int):Prop:=cH w v l∧∀k,aJ v k→∃cs,Box w k 5 cs
theorem KH.ar {S:Nat→Prop}{w w':World}{v:Value}{l:List Int}(h:KH w v l)(ho:af S w w')(hn:∀k,aJ v k→¬S k):KH w' v l:=
 ⟨h.1.ar ho hn,fun k hk=>by obtain⟨cs,hb⟩:=h.2 k hk;exact⟨cs,ho.ak hb (hn k hk)⟩⟩
structure zk (w:World)(cb mb:Nat)(F:Nat→Prop)(size:Int)(l:List Int)(v:Value):Prop where
 len:(l.length:Int)=size
 row:KH w v l
 at_:∃g ca,v=bp g l.length ca∧g<w.heap.size∧g≠cb∧g≠mb∧¬F g
theorem zk.sa {w:World}{cb mb:Nat}{F:Nat→Prop}{size:Int}{l:List Int}{v:Value}(h:zk w cb mb F size l v):cH w v l:=h.row.1
structure bH (K:bj)(i:K.ι)(w:World)(cb mb:Nat)(c:aQ)(hv:Value)(aP:Nat)(s:K.σ)(D:Int→Option ll):Prop where
 ak:Box w cb 106 (eP c hv aP K.t (K.x i) mb)
 ord:K.R i s w
 map:fK w mb (xA D)
 keys:∀b,(D b).isSome=true↔b∈K.sp.all s
 kz:∀b l v,D b=some (l,v)→zk w cb mb (K.F i) (c.f 3) l v
 Al:¬K.F i cb
 yN:¬K.F i mb
 right:dp c
 t1:1≤aP
 t3:aP≤3
 bL:∃A n cp,hv= .slice A n cp∧aX w A n cp c.h∧(0<c.h.length→∀k,aJ hv k→¬K.F i k∧k≠cb∧k≠mb)
section
variable {K:bj}{i:K.ι}{w:World}{cb mb:Nat}{c:aQ}{hv:Value}{aP:Nat}{s:K.σ}{D:Int→Option ll}
theorem bH.cm (h:bH K i w cb mb c hv aP s D):cb≠mb:=h.map.ne h.ak
theorem bH.ar {S:Nat→Prop}{w':World}(h:bH K i w cb mb c hv aP s D)(ho:af S w w')(hS:∀k,k<w.heap.size→¬S k):bH K i w' cb mb c hv aP s D:=
 {ak:=ho.ak h.ak (hS _ h.ak.lt),ord:=(K.oc i).ar h.ord ho fun k hk=>hS k ((K.oc i).lt h.ord k hk),map:=h.map.ar ho (hS _ h.map.lt),keys:=h.keys,Al:=h.Al,yN:=h.yN,right:=h.right,t1:=h.t1,t3:=h.t3,kz:=fun b l v hb=>by
   obtain⟨h1,h2,g,ca,rfl,h3,h4⟩:=h.kz b l v hb;exact⟨h1,h2.ar ho fun k hk=>by rw[←aD.1 hk];exact hS g h3,g,ca,rfl,Nat.lt_of_lt_of_le h3 ho.size,h4⟩,bL:=by
   obtain⟨A,n,cp,h1,h2,h3⟩:=h.bL;exact⟨A,n,cp,h1,h2.ar ho hS,h3⟩}
theorem bH.keep {w':World}(h:bH K i w cb mb c hv aP s D)(ho:af au w w'):bH K i w' cb mb c hv aP s D:=h.ar ho fun _ _=>id
theorem qC (b:Int)(h:bH K i w cb mb c hv aP s D):
 Calls Tryz.prog 97 #[aO cb,ah b] w fun e w'=>e= .returned (.bool (decide (b∈K.sp.all s)))∧af au w w':=by
 have hx:aM w cb 18 (.iface K.t (K.x i)):=h.ak.ag (xO _ _ _ _ _ _);have hm:=(K.oc i).KB.m;have he:=(K.oc i).KB.e;have HC:=ae<|(K.oc i).has b h.ord;generalize decide (b∈K.sp.all s)=k at *;clear h
 go_enter Tryz.func97,Tryz.ntmps97
 go_wp2_with (refine HC.mono ?_;rintro e w1 ⟨rfl,h1⟩);go_ret;exact⟨rfl,h1⟩
theorem Qg (h:bH K i w cb mb c hv aP s D):
 Calls Tryz.prog 37 #[aO cb] w fun e w'=>∃v,e= .returned v∧aA 3 w' w.heap.size v (K.sp.all s)∧af au w w':=by
 have hx:aM w cb 18 (.iface K.t (K.x i)):=h.ak.ag (xO _ _ _ _ _ _);have hm:=(K.oc i).KC.m;have he:=(K.oc i).KC.e;have HC:=ae<|(K.oc i).all h.ord;clear h
 go_enter Tryz.func37,Tryz.ntmps37
 go_wp2_with (refine HC.mono ?_;rintro e w1 ⟨v,rfl,h1,h2⟩);go_ret;exact⟨v,rfl,h1,h2⟩
theorem nQ{P:Prop}(h:P:=by
 rw[ei,ez];clear ei ez
 go_enter Tryz.func121,Tryz.ntmps121
 go_wp2;go_ret;exact⟨rfl,rfl⟩):P:=h
theorem kx (b:Int)(h:bH K i w cb mb c hv aP s D):
 Calls Tryz.prog 121 #[aO cb,ah b] w fun e w'=>e= .returned (.bool (decide (0≤b)&&decide (b<c.f 2)))∧w=w':=by
 have hx:aF w cb 2 (c.f 2):=h.ak.ag (xQ _ _ _ _ _ _ aE);generalize c.f 2=n at *;clear h
 by_cases h1:0≤b
 ·have ei:decide (0≤b)=true:=by simp[h1]
  by_cases h2:b<n
  ·have ez:decide (b<n)=true:=by simp[h2]
   exact nQ
  ·have ez:decide (b<n)=false:=by simp[h2]
   exact nQ
 ·have ei:decide (0≤b)=false:=by simp[h1]
  rw[ei];clear ei
  go_enter Tryz.func121,Tryz.ntmps121
  go_wp2;go_ret;exact⟨rfl,rfl⟩
def zm (c:aQ)(aP:Nat)(b level:Int):Bool:=decide (0≤b)&&decide (b<c.f 2)&&(decide (c.f 5≠1)||decide (level=aP))
theorem oy{P:Prop}(h:P:=by
 go_enter Tryz.func98,Tryz.ntmps98
 go_wp2_with (go_at_call 121;refine HT.mono ?_;rintro e w1 ⟨rfl,rfl⟩);go_ret;exact⟨rfl,rfl⟩):P:=h
theorem yA (b level:Int)(h:bH K i w cb mb c hv aP s D)(hp:c.f 5≠2):
 Calls Tryz.prog 98 #[aO cb,ah b,ah level] w fun e w'=>e= .returned (.bool (zm c aP b level))∧w=w':=by
 have hx5:aF w cb 5 (c.f 5):=h.ak.ag (xQ _ _ _ _ _ _ aE);have E3:aF w cb 17 aP:=h.ak.ag (MK _ _ _ _ _ _);have HT:=kx b h;unfold zm;generalize(decide (0≤b)&&decide (b<c.f 2))=k at *;have HT:=ae HT;generalize c.f 5=pl at *;clear h
 cases k with
 |false=>
  exact oy
 |true=>
  by_cases h1:pl=1
  ·by_cases h2:level=aP
   ·have e:(true&&(decide (pl≠1)||decide (level=(aP:Int))))=true:=by simp[h2]
    rw[e];clear e
    go_enter Tryz.func98,Tryz.ntmps98
    go_wp2_with (go_at_call 121;refine HT.mono ?_;rintro e w1 ⟨rfl,rfl⟩);go_ret;exact⟨by simp,rfl⟩
   ·have e:(true&&(decide (pl≠1)||decide (level=(aP:Int))))=false:=by simp[h1,h2]
    rw[e];clear e;have h2':(level==(aP:Int))=false:=by simpa using h2
    go_enter Tryz.func98,Tryz.ntmps98
    go_wp2_with (go_at_call 121;refine HT.mono ?_;rintro e w1 ⟨rfl,rfl⟩);go_ret;exact⟨by simp[h2],rfl⟩
  ·have e:(true&&(decide (pl≠1)||decide (level=(aP:Int))))=true:=by simp[h1]
   rw[e];clear e;exact oy
end
def KU (K:bj)(w:World)(e:Ending)(w':World):Prop:=∃i,e= .returned (.iface K.t (K.x i))∧K.R i K.s0 w'∧(∀k,K.F i k→w.heap.size≤k)∧af au w w'
def bj.Made (K:bj)(c:aQ)(aP:Nat):Prop:=
 ∀(w:World) (A:Option Addr) (n cp:Nat),aX w A n cp c.h→Calls Tryz.prog 53 #[.agg (ao c (.slice A n cp)),ah aP] w (KU K w)
section
theorem oI{P:Prop}(h:P:=by
 rcases hj with rfl|rfl|rfl
 ·exact Nat.le_trans hsz h2
 ·exact Nat.le_trans hsz h3
 ·exact Nat.le_trans hsz h4):P:=h
theorem p7 {c:aQ}{k:Nat}(hP:dp c)(hk:k<3)(hp:c.f 5≠2)(hq:c.f (6+k)≠2):(ux (c.f (9+k)).toNat).Made c (k+1):=by
 intro w A n cp bL;have hc:=hP.pc k hk;obtain⟨cap,za⟩:=Int.eq_ofNat_of_zero_le (show 0≤c.f (9+k) by omega);rw[za]at hc;rw[za,Int.toNat_natCast];have HN:=fun w=>PJ (cap:=cap) w aj aj
 have HN:=ae HN;clear bL hP hc;have hw:IntKind.i64.wrap (((k+1:Nat):Int) - 1)=k:=by rw[IntKind.wrap_i64];omega
 have Gj:(k:Int)<3:=aj;have hcell:=fun(W:World) (bb:Nat) (hb:Box W bb 25 (ao c (.slice A n cp))) (i:Nat) (hi:i<16)=>hb.ag (aL c (.slice A n cp) hi)
 have HC:=ae hcell;have HF:=ae za;have HQ:=ae hq;clear hcell za hq
 go_enter Tryz.func53,Tryz.ntmps53
 go_upto_region 1 with fail;have HB:=ae<|Box.fresh w 25 (ao c (.slice A n cp));have HO:=ae<|(af.ai au w).alloc (.cells (ao c (.slice A n cp)) 25);generalize w.alloc (.cells (ao c (.slice A n cp)) 25)=W1 at *;generalize w.heap.size=bb at *;have c5:=HC.out W1 bb HB 5 aE;have c6:=HC.out W1 bb HB (6+k) aj;have c9:=HC.out W1 bb HB (9+k) aj;rw[HF.out]at c9;have hq:=HQ.out;generalize c.f 5=f5 at *;generalize c.f (6+k)=f6 at *;have AK:=ae<|HN W1;clear HC HF HQ HN;go_wp2_with (go_at_call 84;refine AK.mono ?_;rintro e W2 ⟨p,g,eb,rfl,h1,h2,h3,h4,h5⟩);go_ret;have hsz:=HO.size;refine⟨(p,g,eb),rfl,⟨h1,fH _⟩,fun j hj=>?_,HO.trans h5⟩;exact oI
end
theorem du {P:Program}{ops:Array Oper}{rest:List Oper}{o:Oper}{a:Act}{w:World}{Q:Exit→Act→World→Prop}(qw:o.guard=none)(t:TypeId)(parts:Array (Nat×Operand))(ho:o.op= .build t parts)
 (pv:List (Nat×Value)) (cells:Array Value) (hf:(parts.map fun(i,x)=>(i,a.eval x)).toList=pv) (hb:P.built t pv=some cells) (h:wpList P ops Q rest (a.put o.dst (.agg cells)) w):wpList P ops Q (o :: rest) a w:=
 wpList_plain qw fun K hK=>Go.wp_build t parts ho (by rw[hf,hb];rfl) (by rw[hf,hb];exact hK _ _ h)
theorem Jd (c:aQ)(hv:Value)(A:Option Addr)(n cp:Nat)(aP:Int)(t:TypeId)(x:Value)(mb:Nat):Tryz.prog.built 106 [(0,.agg (ao c (.slice A n cp))),(1,ah aP),(2,.iface t x),(3,.map (some mb))]=some (ao c (.slice A n cp) ++ #[ah aP,.iface t x,.map (some mb)]):=by kernel_rfl
def Zq (K:bj)(c:aQ)(aP:Nat)(w:World)(e:Ending)(w':World):Prop:=
 ∃i cb mb hv,e= .returned (.tuple #[aO cb,ah 0])∧bH K i w' cb mb c hv aP K.s0 (fun _=>none)∧(∀k,K.F i k→w.heap.size≤k)∧w.heap.size≤cb∧w.heap.size≤mb∧(0<c.h.length→∀k,aJ hv k→w.heap.size≤k)∧af au w w'
section
theorem aX.q7 {S:Nat→Prop}{w w':World}{A:Option Addr}{n c:Nat}{l:List aH}(h:aX w A n c l)(ho:af S w w')(hS:0<l.length→∀k,aJ (.slice A n c) k→¬S k):aX w' A n c l:=
 ⟨h.len,h.cap,h.max,fun i hi=>by
  obtain⟨g,o,e,hg,h0,h1,h2,h3⟩:=h.at_ i hi;have hn:=hS aj g (by rw[e];exact aD.2 rfl);exact⟨g,o,e,Nat.lt_of_lt_of_le hg ho.size,ho.cell h0 hn,ho.cell h1 hn,ho.cell h2 hn,ho.cell h3 hn⟩⟩
theorem oz{P:Prop}(h:P:=by
 refine du rfl _ _ rfl [(0,.agg (ao c (.slice B c.h.length q9))),(1,ah aP),(2,.iface KO.t (KO.x i)),(3,.map (some mb))] _ ?_ (Jd c (.slice B c.h.length q9) B c.h.length q9 aP KO.t (KO.x i) mb) ?_
 ·simp[Act.eval]
 go_wp2;go_ret2;have py:=Box.fresh W6 106 (eP c (.slice B c.h.length q9) aP KO.t (KO.x i) mb);have fW:af au W6 (W6.alloc (.cells (eP c (.slice B c.h.length q9) aP KO.t (KO.x i) mb) 106)):=(af.ai _ _).alloc _;have JX:=cr.size;have hs6:=iu.size;refine⟨i,W6.heap.size,mb,_,rfl,{ak:=py,ord:=(KO.oc i).ar kK fW fun _ _=>id,map:=HM.keep fW,keys:=fun b=>by rw[KO.nil];simp,kz:=fun b l v h=>(by cases h),Al:=fun h=>by have:=cD.out _ h;omega,yN:=JJ.out,right:=HP.out,t1:=h1,t3:=h3,bL:=⟨B,c.h.length,q9,rfl,Sx.keep (iu.trans fW),fun h0 k hk=>?_⟩},fun k hk=>Nat.le_trans JX (HFL k hk),Nat.le_trans JX hs6,Nat.le_trans JX vg,fun h0 k hk=>(HW h0 k hk).2,cr.trans (iu.trans fW)⟩;have Gj:=(HW h0 k hk).1;rw[←lh.out]at Gj;refine⟨fun h=>by have:=HFL.out k h;omega,aj,fun e=>by have:=vg.out;omega⟩):P:=h
theorem eR{P:Prop}(h:P:=by
 exact⟨by first|exact aC.1.alloc _|exact WH|exact WH.alloc _|exact sc,by first|exact aC.2.alloc _|exact WG|exact WG.alloc _|exact(af.ai au W4).drew⟩):P:=h
theorem zQ {KO:bj}{c:aQ}{aP:Nat}(hK:KO.Made c aP)(hP:dp c)(h1:1≤aP)(h3:aP≤3){A:Option Addr}{n cp:Nat}(w:World)(bL:aX w A n cp c.h):
 Calls Tryz.prog 29 #[.agg (ao c (.slice A n cp)),ah aP] w (Zq KO c aP w):=by
 have HK:=ae hK;have HP:=ae hP;have hlen:c.h.length≤100:=by have:=hP.hs.2.2;omega
 have HL:=ae hlen;have HI:=ae bL;have Ju:¬(aP:Int)<1:=aj;have UI:¬(3:Int)<aP:=aj;clear hK hP hlen bL
 go_enter Tryz.func29,Tryz.ntmps29
 go_upto_region 1 with fail;have b8:=ae<|Box.fresh w 25 (ao c (.slice A n cp));have bc:=ae<|(af.ai au w).alloc (.cells (ao c (.slice A n cp)) 25);have Vv:=ae<|HI.keep bc;generalize w.alloc (.cells (ao c (.slice A n cp)) 25)=W1 at *;obtain⟨bb,tZ⟩:∃bb,bb=w.heap.size:=⟨_,rfl⟩;have qx:=aq (w.heap.size≤bb) (Nat.le_of_eq tZ.symm);rw[←tZ]at b8 ⊢;clear tZ HI;have hr:=tE A n cp c W1 Vv;rw[Ch HP.out]at hr;have HR:=ae hr;clear hr;go_upto_region 3 with(first|(refine iy (ao c (.slice A n cp)) b8 Tryz.underlying25 ?_)|(go_at_call 51;refine HR.mono ?_;rintro e W2 ⟨rfl,bq⟩));have dG:=ae<|bq.ak b8 id;have HI2:=ae<|Vv.keep bq;have bu:=ae<|bc.trans bq;clear bq b8 Vv bc HR;have Ye:aM W2 bb 16 (.slice A n cp):=dG.ag (kX c _);have Q5:=ae<|EE W2 HI2 HL;go_upto_region 4 with(go_at_call 52;refine Q5.mono ?_;rintro e W3 ⟨B,q9,rfl,UU,bV,xN⟩;have hG:=ae<|bV.ak dG id;have Zb:aM W3 bb 16 (.slice A n cp):=bV.cell Ye id;have aaW:=hG.free 16);have hO4:af au w (W3.setCell ⟨bb,16,none⟩ (.slice B c.h.length q9)):=(bu.trans bV).setCell (p:=⟨bb,16,none⟩) (.inr qx) _;have hB4:Box (W3.setCell ⟨bb,16,none⟩ (.slice B c.h.length q9)) bb 25 (ao c (.slice B c.h.length q9)):=hG.store 16 (.slice B c.h.length q9);have hH4:aX (W3.setCell ⟨bb,16,none⟩ (.slice B c.h.length q9)) B c.h.length q9 c.h:=UU.q7 (S:=az bb) ((af.ai (az bb) W3).setCell (p:=⟨bb,16,none⟩) (.inl (show az bb bb from rfl)) _) fun _ k hk e=>by
  have h1:=xN k hk;have h2:=dG.lt;have h3:k=bb:=e;omega
 have cr:=ae hO4;have sc:=ae hB4;have Sx:=ae hH4;have HW:=aq (0<c.h.length→∀k,aJ (.slice B c.h.length q9) k→k<W3.heap.size∧w.heap.size≤k) (fun h0 k hk=>by
  have aaL:=Nat.le_trans bu.size (xN k hk);obtain⟨g,o,e,hg,_⟩:=UU.at_ 0 h0;subst e;refine⟨?_,aaL⟩;rw[←aD.1 hk];exact hg)
 have lh:=ae (show(W3.setCell ⟨bb,16,none⟩ (.slice B c.h.length q9)).heap.size=W3.heap.size by simp[World.setCell]);change Code.wp _ _ _ _ (W3.setCell ⟨bb,16,none⟩ (.slice B c.h.length q9));clear hO4 hB4 hH4 UU bV xN hG Zb aaW dG HI2 bu Ye Q5;generalize W3.setCell ⟨bb,16,none⟩ (.slice B c.h.length q9)=W4 at *;have tc:= @run_makeMap Tryz.prog;refine gg (fun w':World=>Box w' bb 25 (ao c (.slice B c.h.length q9))∧af au W4 w') 6 ?_ ?_
 ·exact eR
 intro aC;refine aB (i:=0) (v:=.agg (ao c (.slice B c.h.length q9))) aS rfl aS (fun _ _ _ h=>h) (yieldsIf_load_mid (by rfl) 25 _ rfl bb 0 rfl (ao c (.slice B c.h.length q9)).toList _ (fun w hw j v hj=>by rw[Nat.zero_add];exact hw.1.ag (by rw[←Array.getElem?_toList];exact hj)) Tryz.underlying25 rfl aS) (by assumption) ?_;refine dU ?_;refine bE [1] ?_;refine aB (i:=2) (v:=.agg (ao c (.slice B c.h.length q9))) aS rfl aS (fun _ _ _ h=>h) (yieldsIf_load_mid (by rfl) 25 _ rfl bb 0 rfl (ao c (.slice B c.h.length q9)).toList _ (fun w hw j v hj=>by rw[Nat.zero_add];exact hw.1.ag (by rw[←Array.getElem?_toList];exact hj)) Tryz.underlying25 rfl aS) (by assumption) ?_;refine dU ?_;refine bE [3] ?_;refine kE (i:=4) (j:=5) rfl rfl aS (fun K hK=>?_) (fun K hK=>?_)
 ·go_simp;refine(HK W4.drew B c.h.length q9 (Sx.keep ((af.ai au W4).drew))).mono ?_;rintro e W5 ⟨i,rfl,hR,hF,fz⟩;have WG:af au W4 W5:=((af.ai au W4).drew).trans fz;have WH:=fz.ak aC.1 id;have fY:=ae hR;have xa:=ae hF;have Xl:=ae fz;clear hR hF fz;refine dy hK ?_ fun aC=>?_
  ·exact eR
  clear hK;refine cX 5 fun K hK=>?_
  go_simp
  skip
  refine dy hK ?_ fun aC=>?_
  ·exact eR
  clear hK;refine dE ?_;have HM:=aq (fK (W5.alloc (.map #[] 0)) W5.heap.size (xA fun _=>none)) (fK.made W5);have aY:=(KO.oc i).lt fY;have fI:af au W5 (W5.alloc (.map #[] 0)):=(af.ai au W5).alloc _;have kK:=aq (KO.R i KO.s0 (W5.alloc (.map #[] 0))) ((KO.oc i).ar fY fI fun _ _=>id);have JJ:=aq (¬KO.F i W5.heap.size) (fun h=>by have:=aY _ h;omega);have HFL:=aq (∀k,KO.F i k→W4.heap.size≤k) (fun k hk=>xa k hk);have vg:=aq (W4.heap.size≤W5.heap.size) (Xl.size);have iu:=ae aC.2;have cD:=aq (∀k,KO.F i k→k<(W5.alloc (.map #[] 0)).heap.size) (fun k hk=>by have:=aY k hk;rw[World.size_alloc];omega);clear aY fI aC WH WG fY xa Xl;generalize(W5.alloc (.map #[] 0))=W6 at *;generalize W5.heap.size=mb at *;exact oz
 ·go_simp
  skip
  refine dy hK ?_ fun aC=>?_
  ·exact eR
  clear hK;refine cX 4 fun K hK=>?_
  go_simp;refine(HK (W4.drew.alloc (.map #[] 0)) B c.h.length q9 (Sx.keep (((af.ai au W4).drew).alloc (.map #[] 0)))).mono ?_;rintro e W5 ⟨i,rfl,hR,hF,fz⟩;have WG:af au W4 W5:=(((af.ai au W4).drew).alloc (.map #[] 0)).trans fz;have WH:=fz.ak aC.1 id;have fY:=ae hR;have xa:=ae hF;have Xl:=ae fz;clear hR hF fz;refine dy hK ?_ fun aC=>?_
  ·exact eR
  clear hK;refine dE ?_;have HM:=(show fK W5 W4.heap.size (xA fun _=>none)from(fK.made W4.drew).keep Xl);have aY:=(KO.oc i).lt fY;have kK:=fY;have JJ:=(show¬KO.F i W4.heap.size from fun h=>by have h1:=xa.out _ h;rw[World.size_alloc]at h1;have h2:W4.drew.heap.size=W4.heap.size:=rfl;omega);have HFL:=aq (∀k,KO.F i k→W4.heap.size≤k) (fun k hk=>by have h1:=xa.out _ hk;rw[World.size_alloc]at h1;have h2:W4.drew.heap.size=W4.heap.size:=rfl;omega);have iu:=ae aC.2;have cD:=ae aY;clear aY aC WH WG fY xa Xl;obtain⟨mb,tY⟩:∃mb,mb=W4.heap.size:=⟨_,rfl⟩;have vg:=aq (W4.heap.size≤mb) (Nat.le_of_eq tY.symm);rw[←tY]at HM JJ;have HM:=ae HM;have JJ:=ae JJ;rw[←tY];clear tY;generalize W5=W6 at *;exact oz
end
def GC (D:Int→Option ll)(g:Bool)(v b:Int)(p:ll):Int→Option ll:=aV (if g=true then aV D v none else D) b (some p)
def su (D:Int→Option ll)(g:Bool)(v:Int):Value:=if g=true then((D v).map Prod.snd).getD aT else aT
theorem OZ (D:Int→Option ll)(b:Int)(p:ll):Bp (xA D) b p.2=xA (aV D b (some p)):=by
 funext x
 unfold Bp xA aV
 split<;>rfl
theorem FD (D:Int→Option ll)(b:Int):DC (xA D) b=xA (aV D b none):=by
 funext x
 unfold DC xA aV
 split<;>rfl
def Ft (F:Nat→Prop)(mb:Nat):Nat→Prop:=fun k=>F k∨k=mb
def uR (K:bj)(i:K.ι)(cb mb:Nat)(c:aQ)(hv:Value)(aP:Nat)(s:K.σ)(D:Int→Option ll)(b:Int)(dl:List Int)(w:World)(e:Ending)(w':World):Prop:=
 ∃vv,e= .returned (.tuple #[.agg #[ah (K.sp.add s b).2.1,su D (K.sp.add s b).2.2 (K.sp.add s b).2.1],.bool (K.sp.add s b).2.2,ah 0])∧
  bH K i w' cb mb c hv aP (K.sp.add s b).1 (GC D (K.sp.add s b).2.2 (K.sp.add s b).2.1 b (dl,vv))∧(∀k,aJ vv k→w.heap.size≤k)∧af (Ft (K.F i) mb) w w'
theorem iX {P:Program}{fn:Func}{p u v:Tmp}{ty:TypeId}(h:fn.results=#[.cell p ty,.tmp u,.tmp v])(tmps:Array Value)(w:World)(g:Nat)(t:TypeId)(cs:Array Value)(fr:Nat×Nat)(d:TypeDesc)
 (hp:tmps.getD p undef=aO g) (hg:w.heap[g]? =some (.cells cs t fr))
 (hu:P.underlying ty=some d) (hd:(match d with| .struct _| .array _ _=>true|_=>false)=true) (hi:(P.info? ty).map (·.size)=some cs.size):
 (results fn tmps).run P w= .ok (.tuple #[.agg cs,tmps.getD u undef,tmps.getD v undef]) w:=by
 have qL:tmps[p]?.getD undef=aO g:=by simpa using hp
 simp[results,h,qL,asAddr,run_loadVar_row w g t ty cs fr d hg hu hd hi]
theorem zz {w:World}{v:Value}{l:List Int}(h:cH w v l)(hl:0<l.length):∀k,aJ v k→k<w.heap.size:=by
 intro k hk;obtain⟨A,c,rfl,_,_,h3⟩:=h;obtain⟨g,o,rfl,hc⟩:=h3.at_ (i:=0) (by rw[List.length_map];exact hl) undef;rw[←aD.1 hk];exact World.block_lt_of_cell? w _ hc
theorem zk.q7 {w w':World}{cb mb:Nat}{F:Nat→Prop}{size:Int}{l:List Int}{v:Value}(h:zk w cb mb F size l v)(ho:af (Ft F mb) w w'):zk w' cb mb F size l v:=by
 obtain⟨h1,h2,g,ca,rfl,h3,h4,h5,h6⟩:=h;exact⟨h1,h2.ar ho fun k hk e=>by rw[←aD.1 hk]at e;exact e.elim h6 h5,g,ca,rfl,Nat.lt_of_lt_of_le h3 ho.size,h4,h5,h6⟩
theorem GG:Tryz.prog.underlying 104=some (.map 3 35):=Tryz.underlying104
def Ub (W4:World)(mb rb:Nat)(D:Int→Option ll)(g:Bool)(v:Int)(wx:World):Prop:=
 Box wx rb 87 #[ah v,su D g v]∧fK wx mb (xA (if g=true then aV D v none else D))∧af (fun k=>k=mb∨k=rb) W4 wx
section
theorem F4 {KO:bj}{i:KO.ι}{w:World}{cb mb:Nat}{c:aQ}{hv:Value}{aP:Nat}{s:KO.σ}{D:Int→Option ll}(h:bH KO i w cb mb c hv aP s D)
 {b:Int} {dl:List Int} {dv:Value} (iq:cH w dv dl) (Ay:∀k,aJ dv k→¬KO.F i k∧k≠mb) (h0:0≤b) (h1:b<c.f 2) (hl:(dl.length:Int)=c.f 3) (level:Int)
 (HT:∀w',bH KO i w' cb mb c hv aP s D→Calls Tryz.prog 98 #[aO cb,ah b,ah level] w' fun e ky=>e= .returned (.bool true)∧af au w' ky)
 (ht:KO.sp.takes b) (cV:KO.sp.jf s<da):
 Calls Tryz.prog 101 #[aO cb,.agg #[ah b,dv],ah level] w (uR KO i cb mb c hv aP s D b dl w):=by
 obtain⟨dA,dc,rfl,NJ,JA,iD⟩:=id iq;have Oq:b<64:=by have:=h.right.p2;omega
 have YV:=ae fun W (hR:KO.R i s W)=>(KO.oc i).add hR h0 Oq ht cV
 have OP:=ae<|(KO.oc i).KF h.ord h0 Oq ht;have uY:=ae fun(v:Int) (hv:v∈KO.sp.all s)=>(KO.oc i).lC h.ord hv
 have uu:=fun W (hC:bH KO i W cb mb c hv aP s D)=>kx b hC
 rw[show(decide (0≤b)&&decide (b<c.f 2))=true by simp[h0,h1]]at uu;have uu:=ae uu;have pF:=ae HT;have H:=ae h;have VB:=ae iq;have XA:=ae Ay;have Fs:=ae (show 0<dl.length by have:=h.right.p3;omega);have HDW:=ae<|zz iq Fs;clear Ay;have HL:=ae hl;have Be:=aq (0≤b∧b<64) (⟨h0,Oq⟩);clear HT ht cV h iq hl iD h0 h1 Oq NJ JA
 go_enter Tryz.func101,Tryz.ntmps101
 go_upto_region 1 with fail;have ei:=Box.fresh w 87 #[ah b,.slice dA dl.length dc];have ez:=Box.fresh (w.alloc (.cells #[ah b,.slice dA dl.length dc] 87)) 87 #[ah 0,aT];rw[World.size_alloc]at ez;have ei:=ei.alloc (.cells #[ah 0,aT] 87);have aK:=((af.ai au w).alloc (.cells #[ah b,.slice dA dl.length dc] 87)).alloc (.cells #[ah 0,aT] 87);have bc:=ae aK;have H1:=ae<|H.keep aK;have YR:=ae<|VB.ar aK fun _ _=>id;have SQ:=(KO.oc i).lt H.ord;have jV:=H.ak.lt;have tY:=H.map.lt;have NA:¬KO.F i w.heap.size:=fun e=>by have:=SQ _ e;omega
 have hnv:¬KO.F i (w.heap.size+1):=fun e=>by have:=SQ _ e;omega
 have NK:w.heap.size≠cb∧w.heap.size≠mb∧w.heap.size+1≠cb∧w.heap.size+1≠mb∧w.heap.size≠w.heap.size+1∧w.heap.size≤w.heap.size+1:=⟨aj,aj,aj,aj,aj,aj⟩;have uI:=ae H.Al;have JJ:=ae H.yN;change Code.wp _ _ _ _ ((w.alloc (.cells #[ah b,.slice dA dl.length dc] 87)).alloc (.cells #[ah 0,aT] 87));clear aK SQ jV tY VB;generalize(w.alloc (.cells #[ah b,.slice dA dl.length dc] 87)).alloc (.cells #[ah 0,aT] 87)=W1 at *;obtain⟨fb,iQ⟩:∃fb,fb=w.heap.size:=⟨_,rfl⟩;obtain⟨rb,km⟩:∃rb,rb=w.heap.size+1:=⟨_,rfl⟩;have lh:=aq (w.heap.size≤fb∧w.heap.size≤rb) (⟨aj,aj⟩);rw[←km]at ez hnv NK;rw[←iQ]at ei NA NK;rw[←km,←iQ];clear iQ km;have kr:=ae ei;have w7:=ae ez;have ta:=ae NA;have HNV:=ae hnv;have HD:=ae NK;clear ei ez NA hnv NK;have f0:aF W1 fb 0 b:=kr.ag rfl;have f1:aM W1 fb 1 (.slice dA dl.length dc):=kr.ag rfl;have s3:aF W1 cb 3 dl.length:=by rw[HL.out];exact H1.ak.ag (xQ _ _ _ _ _ _ aE)
 go_upto_region 5 with(go_at_call 121;refine(uu W1 H1).mono ?_;rintro e W ⟨rfl,rfl⟩);refine gg (fun w':World=>w'=W1.drew) 9 ?_ ?_
 ·rfl
 intro aC;refine bE [0,1,2,3,4,5,6,7,8] ?_;refine dE ?_;clear aC uu;go_upto_region 7 with fail;have H2:=aq (bH KO i W1.drew cb mb c hv aP s D) (H1.keep ((af.ai au W1).drew));have lE:=aq (Box W1.drew fb 87 #[ah b,.slice dA dl.length dc]) (kr);have uW:=aq (Box W1.drew rb 87 #[ah 0,aT]) (w7);have YQ:=aq (cH W1.drew (.slice dA dl.length dc) dl) (YR);have bu:=ae bc.drew;clear f0 f1 s3 H1 kr w7 YR bc;generalize W1.drew=W2 at *;have f0:aF W2 fb 0 b:=lE.ag rfl;go_upto_region 9 with(go_at_call 98;refine(pF W2 H2).mono ?_;rintro e W3 ⟨rfl,bV⟩);have H3:=ae<|H2.keep bV;have vj:=ae<|bV.ak lE id;have wZ:=ae<|bV.ak uW id;have YP:=ae<|YQ.ar bV fun _ _=>id;have bI:=ae<|bu.trans bV;clear bV f0 H2 lE uW YQ bu pF;have k1:aM W3.drew cb 18 (.iface KO.t (KO.x i)):=H3.ak.ag (xO _ _ _ _ _ _);have k2:aF W3.drew fb 0 b:=vj.ag rfl;have ej:=aq (KO.R i s W3.drew) ((KO.oc i).ar H3.ord ((af.ai au W3).drew) fun _ _=>id);have hm:=(KO.oc i).KD.m;have he:=(KO.oc i).KD.e;refine pG (fun w':World=>aM w' cb 18 (.iface KO.t (KO.x i))∧aF w' fb 0 b) 13 fun aC=>?_
 refine bE [0,1,2,3,4,5] ?_;refine cX 6 fun K hK=>?_
 go_simp;refine(YV W3.drew ej).mono ?_;rintro e W4 ⟨rfl,QM,ey⟩;have jh:=ae QM;have cr:=ae ey;have k1:=ey.cell aC.1 uI;have k2:=ey.cell aC.2 ta;clear QM ey;refine Ai hK fun aC=>?_
 clear hK;refine bE [7,8,9,10,11,12] ?_;refine dE ?_;clear aC k1 k2 ej YV hm he;have KX:=ae H3.keys;have YI:=ae H3.kz;have HCH:=aq (bH KO i W3.drew cb mb c hv aP s D) (H3.keep ((af.ai au W3).drew));have sc:=ae<|cr.ak HCH.ak uI;have Kd:=ae<|HCH.map.ar cr JJ;have JN:=ae<|cr.ak (show Box W3.drew fb 87 #[ah b,.slice dA dl.length dc]from vj) ta;have AD:=ae<|cr.ak (show Box W3.drew rb 87 #[ah 0,aT]from wZ) HNV;have YO:=ae<|(show cH W3.drew (.slice dA dl.length dc) dl from YP).ar cr fun k hk=>(XA k hk).1;have Yw:=ae<|(bI.drew.mono (S':=Ft (KO.F i) mb) fun k h=>h.elim).aG cr fun k hk=>.inl (.inl hk);clear vj wZ YP;clear H3 bI cr;generalize hg1:(KO.sp.add s b).1=s' at *;generalize hg2:(KO.sp.add s b).2.1=v at *;generalize Wo:(KO.sp.add s b).2.2=g at *;have HG1:=ae hg1;have HG2:=ae hg2;have HG3:=ae Wo;clear hg1 hg2 Wo;have m19:aM W4 cb 19 (.map (some mb)):=sc.ag (xP _ _ _ _ _ _);go_upto_if 55 with fail
 go_cut [] (fun wx=>Ub W4 mb rb D g v wx)
 case first=>
  cases g with
  |false=>
   have Dc:v=0:=OP.elim (fun h=>h.2.1) fun h=>(by cases h.1)
   have HV0:=ae Dc;clear Dc;go_wp2
   go_meet
   case rel=>exact⟨by rw[HV0.out];exact AD,Kd,af.ai _ _⟩
  |true=>
   have SS:v∈KO.sp.all s:=OP.elim (fun h=>(by cases h.1)) fun h=>h.2.1
   have Z6:=uY.out v SS;obtain⟨⟨l0,v0⟩,U6⟩:=Option.isSome_iff_exists.1 ((KX v).2 SS);obtain⟨_,_,g0,wP,e0,_⟩:=YI.out v l0 v0 U6;subst e0;have hI:Ba v:=⟨aj,aj⟩;have XR:xA D v=some (bp g0 l0.length wP):=by unfold xA;rw[U6];rfl
   have ND:=mz (P:=Tryz.prog) Kd GG Tryz.underlying3 (z:=aT) aS hI;rw[XR]at ND;have ND:(Instr.lookup 104 (.map (some mb)) (ah v) false).run Tryz.prog W4= .ok (bp g0 l0.length wP) W4:=ND;have HI:=ae hI;have HVD:=ae (show su D true v=bp g0 l0.length wP by unfold su;rw[if_pos rfl,U6];rfl);clear SS Z6 U6 hI XR;go_upto_region 14 with(refine iP #[ah v,bp g0 l0.length wP] AD aU ?_);have fz:af (fun k=>k=mb∨k=rb) W4 (W4.setRow rb #[ah v,bp g0 l0.length wP]):=(af.ai _ _).aw (.inl (.inr rfl)) _;have QJ:=AD.aw #[ah v,bp g0 l0.length wP];have Gi:fK (W4.setRow rb #[ah v,bp g0 l0.length wP]) mb (xA D):=Kd.ar (((af.ai (az rb) W4).aw (.inl (show az rb rb from rfl)) _)) fun e=>HD.2.2.2.1 (show mb=rb from e).symm
   have hb5:=(((af.ai (az rb) W4).aw (.inl (show az rb rb from rfl)) #[ah v,bp g0 l0.length wP])).ak sc fun e=>HD.2.2.1 (show cb=rb from e).symm
   have ek:=ae fz;have rz:=ae QJ;have Kb:=ae Gi;have ach:aM (W4.setRow rb #[ah v,bp g0 l0.length wP]) cb 19 (.map (some mb)):=hb5.ag (xP _ _ _ _ _ _);clear fz QJ Gi hb5 m19 ND;generalize W4.setRow rb #[ah v,bp g0 l0.length wP]=W5 at *;obtain⟨u5,W6,GI,hm6,fI⟩:=sY (P:=Tryz.prog) Kb GG Tryz.underlying3 HI 0;have Nh:=ae hm6;have iu:=ae fI;clear hm6 fI;go_wp2
   go_meet
   case rel=>
    refine⟨?_,?_,ek.aG iu fun k hk=>.inl (.inl hk)⟩
    ·rw[HVD.out];exact iu.ak rz fun e=>HD.2.2.2.1 (show rb=mb from e)
    ·rw[if_pos rfl,←FD];exact Nh
 case rest=>
  obtain⟨QJ,Gi,fz⟩:=hcut;obtain⟨W5,e5⟩:∃W5,W5=wc:=⟨_,rfl⟩;subst e5;have hcm:=H.cm;have rz:=ae QJ;have Kb:=ae Gi;have ek:=ae fz;have Km:=ae<|fz.ak sc fun e=>e.elim hcm fun e=>HD.2.2.1 e.symm;have xa:=ae<|fz.ak JN fun e=>e.elim HD.2.1 HD.2.2.2.2.1;have hdr:∀k,aJ (.slice dA dl.length dc) k→¬(k=mb∨k=rb):=fun k hk e=>e.elim (XA k hk).2 fun e=>by have:=HDW.out k hk;have:=lh.2;omega
  have abI:=aq (cH W5.drew (.slice dA dl.length dc) dl) (YO.ar fz.drew hdr);clear QJ Gi fz hcm hdr sc Kd JN AD YO m19;have k1:aM W5.drew cb 19 (.map (some mb)):=Km.ag (xP _ _ _ _ _ _);have k2:aF W5.drew fb 0 b:=xa.ag rfl;have k3:aM W5.drew fb 1 (.slice dA dl.length dc):=xa.ag rfl;have HI:=aq (Ba b) (⟨by have:=Be.out;omega,by have:=Be.out;omega⟩);go_upto_region 15 with fail;refine pG (fun w':World=>aM w' cb 19 (.map (some mb))∧aF w' fb 0 b∧aM w' fb 1 (.slice dA dl.length dc)) 9 fun aC=>?_
  refine bE [0,1,2,3,4,5,6,7] ?_;refine cX 8 fun K hK=>?_
  go_simp;refine(gX _ dl W5.drew abI).mono ?_;rintro e W6 ⟨vv,rfl,Rf,fI,Rl⟩;have Vg:=ae Rf;have iu:=ae fI;have HN6:=ae Rl;have k1:=fI.cell aC.1 id;have k2:=fI.cell aC.2.1 id;have k3:=fI.cell aC.2.2 id;clear Rf fI Rl;refine Ai hK fun aC=>?_
  clear hK;refine dE ?_;clear aC k1 k2 k3;have OK:=ae<|(af.ai au W5).drew.trans iu;have Nh:=ae<|Kb.keep OK;refine zV W6 rfl _ _ _ rfl GG Tryz.underlying3 mb (xA (if g=true then aV D v none else D)) b vv rfl rfl rfl Nh HI ?_;intro W7 NB l4;have wS:=ae NB;have pz:=ae l4;have NS:=ae<|l4.ak (OK.ak rz id) fun e=>HD.2.2.2.1 (show rb=mb from e);have HVO:=ae (show(su D g v).oneCell'=true by
   cases g with
   |false=>rfl
   |true=>
    unfold su;rw[if_pos rfl]
    cases U6:D v with
    |none=>rfl
    |some p=>
     obtain⟨l0,v0⟩:=p;obtain⟨_,_,g0,wP,e0,_⟩:=YI.out v l0 v0 U6;subst e0;rfl)
  clear NB l4 Nh HI;generalize V0:su D g v=vd at *;have HVD:=ae V0;clear V0;go_wp2_with (first|(refine iy #[ah v,vd] NS Tryz.underlying87 ?_)|(refine iP #[ah v,vd] NS (by have:=HVO.out;simp[Value.oneCell']at this ⊢;exact this) ?_));have XW:af (az rb) W7 (W7.setRow rb #[ah v,vd]):=(af.ai (az rb) W7).aw (.inl (show az rb rb from rfl)) _;have hv8:=NS.aw #[ah v,vd];generalize W7.setRow rb #[ah v,vd]=W8 at *;refine bodyPost_ret (iX rfl _ _ rb _ #[ah v,vd] (0,0) _ rfl hv8 Tryz.underlying87 rfl aS) rfl ?_;have SL:af (fun k=>k=mb∨k=rb) W6 W8:=(pz.mono (S':=fun k=>k=mb∨k=rb) fun k hk=>.inl (.inl hk)).aG XW fun k hk=>.inl (.inr hk)
  have XX:af (fun k=>k=mb∨k=rb) W4 W8:=(ek.cE OK).trans SL;have Kt:af (Ft (KO.F i) mb) w W8:=Yw.aG XX fun k hk=>hk.elim (fun e=>.inl (.inr e)) fun e=>.inr (by have:=lh.2;omega)
  have hs5:=ek.size;have hs6:=OK.size;have hs8:=SL.size;have tY:=Kb.lt;have jV:=Km.lt;have km:=rz.lt;have acF:W5.drew.heap.size=W5.heap.size:=rfl;have Dy:zk W8 cb mb (KO.F i) (c.f 3) dl vv:=by
   have hn6:=HN6.out;have Yd:cH W6 vv dl:=Vg.sa (by have:=H.right.p3;have:=HL.out;omega);have hsh:=Vg.out;rcases hsh with⟨_,e⟩|⟨g9,Yi,S6,rfl,U3,_⟩
   ·have:=Fs.out;have:dl= []:=by simpa [bytes] using e
    rw[this]at Fs;exact absurd Fs (Nat.lt_irrefl _)
   ·have h9:=hn6 g9 (aD.2 rfl);have hl9:=U3.lt;rw[show(bytes dl).length=dl.length by simp[bytes]]at Yd ⊢;refine⟨HL,KH.ar ⟨Yd,fun k hk=>⟨S6,by rw[←aD.1 hk];exact U3⟩⟩ SL fun k hk e=>?_,g9,Yi,rfl,aj,aj,aj,fun e=>?_⟩
    ·have:=aD.1 hk;rcases e with e|e<;>omega
    ·have:=(KO.oc i).lt jh g9 e;omega
  refine⟨vv,by rw[HG2.out,HG3.out,HVD.out];rfl,?_,fun k hk=>?_,Kt⟩
  ·rw[HG1.out,HG2.out,HG3.out];refine {ak:=Kt.ak H.ak (fun e=>e.elim uI H.cm),ord:=(KO.oc i).ar jh XX fun k hk e=>?_,map:=?_,keys:=fun y=>?_,kz:=fun y l' v' hy=>?_,Al:=uI.out,yN:=JJ.out,right:=H.right,t1:=H.t1,t3:=H.t3,bL:=?_}
   ·rcases e with rfl|rfl
    ·exact JJ hk
    ·exact HNV hk
   ·have hm8:=wS.ar XW fun e=>HD.2.2.2.1 (show mb=rb from e).symm
    rw[OZ (if g=true then aV D v none else D) b (dl,vv)]at hm8;exact hm8
   ·unfold GC aV
    by_cases e:y=b
    ·rw[if_pos e];refine⟨fun _=>?_,fun _=>rfl⟩;rcases OP.out with⟨_,_,h9⟩|⟨_,_,_,h9⟩
     ·exact(h9 y).2 (.inl e)
     ·exact(h9 y).2 (.inl e)
    ·rw[if_neg e];rcases OP.out with⟨hg,_,h9⟩|⟨hg,_,_,h9⟩
     ·rw[hg,if_neg (by simp),h9 y,KX.out y];exact⟨.inr,fun h=>h.resolve_left e⟩
     ·rw[hg,if_pos rfl,h9 y]
      by_cases e2:y=v
      ·subst e2;simp[e]
      ·rw[if_neg e2,KX.out y];exact⟨fun h=>.inr ⟨h,e2⟩,fun h=>(h.resolve_left e).1⟩
   ·unfold GC aV at hy
    split at hy
    ·injection hy with hy;injection hy with h8 h9;rw[←h8,←h9];exact Dy
    ·cases g with
     |false=>exact(H.kz y l' v' hy).q7 Kt
     |true=>
      rw[if_pos rfl]at hy
      split at hy
      ·cases hy
      ·exact(H.kz y l' v' hy).q7 Kt
   ·obtain⟨hA,UP,hcp,e9,h8,h9⟩:=H.bL;exact⟨hA,UP,hcp,e9,h8.q7 Kt fun h0 k hk e=>by
     have:=h9 h0 k (e9▸hk);exact e.elim this.1 this.2.2,h9⟩
  ·have:=HN6.out k hk;have:=Yw.size;omega
end
section
variable {K:bj}{i:K.ι}{w w':World}{cb mb:Nat}{c:aQ}{hv:Value}{aP:Nat}{s s':K.σ}{D:Int→Option ll}
theorem bH.tg (h:bH K i w cb mb c hv aP s D)(hR:K.R i s' w')(ho:af (K.F i) w w')(hk:∀y,y∈K.sp.all s'↔y∈K.sp.all s):bH K i w' cb mb c hv aP s' D where
 ak:=ho.ak h.ak h.Al
 ord:=hR
 map:=h.map.ar ho h.yN
 keys:=fun b=>(h.keys b).trans (hk b).symm
 kz:=fun b l v hb=>(h.kz b l v hb).q7 (ho.mono fun k hk=>.inl (.inl hk))
 Al:=h.Al
 yN:=h.yN
 right:=h.right
 t1:=h.t1
 t3:=h.t3
 bL:=by
  obtain⟨A,n,cp,e,h8,h9⟩:=h.bL;exact⟨A,n,cp,e,h8.q7 ho fun h0 k hk=>(h9 h0 k (e▸hk)).1,h9⟩
theorem bH.off {S:Nat→Prop}(h:bH K i w cb mb c hv aP s D)(ho:af S w w')(h1:∀k,K.F i k→¬S k)(h2:¬S cb)(h3:¬S mb)(h4:∀b l v,D b=some (l,v)→∀k,aJ v k→¬S k)(h5:0<c.h.length→∀k,aJ hv k→¬S k):bH K i w' cb mb c hv aP s D where
 ak:=ho.ak h.ak h2
 ord:=(K.oc i).ar h.ord ho h1
 map:=h.map.ar ho h3
 keys:=h.keys
 kz:=fun b l v hb=>by
  have h9:=h4 b l v hb;obtain⟨a1,a2,g,ca,rfl,a3,a4⟩:=h.kz b l v hb;exact⟨a1,a2.ar ho h9,g,ca,rfl,Nat.lt_of_lt_of_le a3 ho.size,a4⟩
 Al:=h.Al
 yN:=h.yN
 right:=h.right
 t1:=h.t1
 t3:=h.t3
 bL:=by
  obtain⟨A,n,cp,e,h8,h9⟩:=h.bL;exact⟨A,n,cp,e,h8.q7 ho fun h0 k hk=>h5 h0 k (e▸hk),h9⟩
theorem bH.ltD (h:bH K i w cb mb c hv aP s D){b:Int}{l:List Int}{v:Value}(hb:D b=some (l,v)):∀k,aJ v k→k<w.heap.size:=fun k hk=>by
 obtain⟨_,_,g,ca,rfl,a3,_⟩:=h.kz b l v hb;rw[←aD.1 hk];exact a3
theorem bH.ltH (h:bH K i w cb mb c hv aP s D)(h0:0<c.h.length):∀k,aJ hv k→k<w.heap.size:=fun k hk=>by
 obtain⟨A,n,cp,rfl,h8,_⟩:=h.bL;obtain⟨g,o,rfl,hg,_⟩:=h8.at_ 0 h0;rw[←aD.1 hk];exact hg
theorem bH.Gb (h:bH K i w cb mb c hv aP s D){b:Int}{p:ll}(hb:D b=some p):b∈K.sp.all s:=(h.keys b).1 (by rw[hb];rfl)
theorem bH.XN (h:bH K i w cb mb c hv aP s D){b:Int}(hb:D b=none):b∉K.sp.all s:=fun e=>by
 have:=(h.keys b).2 e;rw[hb]at this
 cases this
def aa6 (K:bj)(i:K.ι)(cb mb:Nat)(c:aQ)(hv:Value)(aP:Nat)(s:K.σ)(D:Int→Option ll)(b:Int)(l:List Int)(w:World)(e:Ending)(w':World):Prop:=
 ∃v,e= .returned (.tuple #[v,.bool true])∧Row 5 w' v (bytes l)∧(∀k,aJ v k→w.heap.size≤k)∧bH K i w' cb mb c hv aP (K.sp.use s b) D∧af (K.F i) w w'
theorem rX {b:Int}(h:bH K i w cb mb c hv aP s D)(hb:D b=none):
 Calls Tryz.prog 63 #[aO cb,ah b] w fun e w'=>e= .returned (.tuple #[aT,.bool false])∧af au w w':=by
 have HH:=qC b h;rw[decide_eq_false (h.XN hb)]at HH;have HH:=ae HH;clear h hb
 go_enter Tryz.func63,Tryz.ntmps63
 go_wp2_with (go_at_call 97;refine HH.mono ?_;rintro e w1 ⟨rfl,h1⟩);go_ret2;exact⟨rfl,h1⟩
theorem wB {b:Int}{l:List Int}{dv:Value}(h:bH K i w cb mb c hv aP s D)(hb:D b=some (l,dv))(cV:K.sp.jf s<da):
 Calls Tryz.prog 63 #[aO cb,ah b] w (aa6 K i cb mb c hv aP s D b l w):=by
 have hV:=h.Gb hb;have HH:=qC b h;rw[decide_eq_true hV]at HH;have HH:=ae HH;have Jv:=(K.oc i).lC h.ord hV;have HI:=aq (Ba b) (⟨aj,aj⟩);have HU:=ae fun w' (hC:bH K i w' cb mb c hv aP s D)=>(K.oc i).use hC.ord hV cV
 have HL:=ae<|(K.oc i).N7 h.ord hV;have hm:=(K.oc i).Kz.m;have he:=(K.oc i).Kz.e;have H:=ae h;have HV:=ae (show xA D b=some dv by unfold xA;rw[hb];rfl);have HD:=ae hb;have HR:=ae h.right;clear h hb hV Jv cV
 go_enter Tryz.func63,Tryz.ntmps63
 go_upto_region 3 with(go_at_call 97;refine HH.mono ?_;rintro e W1 ⟨rfl,aK⟩);have H1:=ae<|H.keep aK;have bc:=ae aK;have x1:aM W1 cb 18 (.iface K.t (K.x i)):=H1.ak.ag (xO _ _ _ _ _ _);clear aK;go_upto_region 4 with(refine(HU W1 H1).mono ?_;rintro e W2 ⟨rfl,kJ,bq⟩);have H2:=ae<|H1.tg kJ bq HL;have bu:=ae bq;clear x1 kJ bq hm he;have x2:aM W2 cb 19 (.map (some mb)):=H2.ak.ag (xP _ _ _ _ _ _);have ND:=mz (P:=Tryz.prog) H2.map GG Tryz.underlying3 (z:=aT) aS HI;rw[HV.out,Option.getD_some]at ND;have iq:=(H2.kz b l dv HD).sa;have VB:=ae iq;clear iq;go_wp2_with (go_at_call 60;refine(gX _ l W2 VB).mono ?_;rintro e W3 ⟨v,rfl,gY,bV,Dy⟩);go_ret2;have wU:=bc.size;have uC:=bu.size;exact⟨v,rfl,gY,fun k hk=>by have:=Dy k hk;omega,H2.keep bV,((bc.mono fun _ hk=>hk.elim).trans bu).cE bV⟩
end
theorem Qf (c:aQ)(A:Option Addr)(n m:Nat):(ao c (.slice A n m)).all (·.oneCell')=true:=by simp[ao,Value.oneCell']
def lc:aQ:=⟨fun i=>[1,1,4,1,2,0,1,1,1,1,1,1,1,1,0,1].getD i 0,[]⟩
theorem xM:dp lc where
 p0:=aE
 p1:=aE
 p2:=aE
 p3:=aE
 p4:=aE
 p5:=aE
 pp:=aE
 pl:=aE
 pc:=aE
 QD:=aE
 UA:=aE
 Uz:=aE
 p15:=aE
 ph:=.inr rfl
 hs:=⟨fun i hi=>absurd hi (Nat.not_lt_zero _),fun i j _ hj=>absurd hj (Nat.not_lt_zero _),aE⟩
theorem FY (k:Nat)(hk:k<3):(ux 1).Made lc (k+1):=by
 rcases(show k=0∨k=1∨k=2 by omega)with rfl|rfl|rfl
 ·exact p7 (c:=lc) (k:=0) xM aE aE aE
 ·exact p7 (c:=lc) (k:=1) xM aE aE aE
 ·exact p7 (c:=lc) (k:=2) xM aE aE aE
section
end
section
end
theorem kG {P:Program}{fn:Func}{p u:Tmp}{ty:TypeId}(h:fn.results=#[.cell p ty,.tmp u])(tmps:Array Value)(w:World)(g:Nat)(t:TypeId)(cs:Array Value)(fr:Nat×Nat)(d:TypeDesc)
 (hp:tmps.getD p undef=aO g) (hg:w.heap[g]? =some (.cells cs t fr))
 (hu:P.underlying ty=some d) (hd:(match d with| .struct _| .array _ _=>true|_=>false)=true) (hi:(P.info? ty).map (·.size)=some cs.size):
 (results fn tmps).run P w= .ok (.tuple #[.agg cs,tmps.getD u undef]) w:=by
 have qL:tmps[p]?.getD undef=aO g:=by simpa using hp
 simp[results,h,qL,asAddr,run_loadVar_row w g t ty cs fr d hg hu hd hi]
def zF:Array Value:=#[ah 0,aT]
section
end
section
variable {K:bj}{i:K.ι}{w w':World}{cb mb:Nat}{c:aQ}{hv:Value}{aP:Nat}{s s':K.σ}{D:Int→Option ll}
theorem bH.less (h:bH K i w cb mb c hv aP s D){b:Int}(hb:b∈K.sp.all s){w1:World}(hR:K.R i (K.sp.rem s b) w1)(aK:af (K.F i) w w1)(hm:fK w' mb (xA (aV D b none)))(bq:af (az mb) w1 w'):
 bH K i w' cb mb c hv aP (K.sp.rem s b) (aV D b none):=by
 have ho:af (Ft (K.F i) mb) w w':=(aK.mono fun k hk=>.inl (.inl hk)).aG bq fun k hk=>.inl (.inr hk)
 exact {
  ak:=ho.ak h.ak fun e=>e.elim h.Al h.cm
  ord:=(K.oc i).ar hR bq fun k hk e=>h.yN (by rw[←show k=mb from e];exact hk)
  map:=hm
  keys:=fun y=>by
   unfold aV;rw[(K.oc i).Gz h.ord hb y]
   by_cases e:y=b
   ·rw[if_pos e];simp[e]
   ·rw[if_neg e,h.keys y];simp[e]
  kz:=fun y l v hy=>by
   unfold aV at hy
   split at hy
   ·cases hy
   ·exact(h.kz y l v hy).q7 ho
  Al:=h.Al
  yN:=h.yN
  right:=h.right
  t1:=h.t1
  t3:=h.t3
  bL:=by
   obtain⟨A,n,cp,e,h8,h9⟩:=h.bL;exact⟨A,n,cp,e,h8.q7 ho fun h0 k hk e2=>by
    have:=h9 h0 k (e▸hk);exact e2.elim this.1 this.2.2,h9⟩}
def Zu (K:bj)(i:K.ι)(cb mb:Nat)(c:aQ)(hv:Value)(aP:Nat)(s:K.σ)(D:Int→Option ll)(b:Int)(l:List Int)(dv:Value)(w:World)(e:Ending)(w':World):Prop:=
 e= .returned (.tuple #[.agg #[ah b,dv],.bool true])∧bH K i w' cb mb c hv aP (K.sp.rem s b) (aV D b none)∧zk w' cb mb (K.F i) (c.f 3) l dv∧af (Ft (K.F i) mb) w w'
theorem dm{P:Prop}(h:P:=by simp[zF,Value.oneCell']):P:=h
theorem CX {b:Int}(h:bH K i w cb mb c hv aP s D)(hb:D b=none):
 Calls Tryz.prog 67 #[aO cb,ah b] w fun e w'=>e= .returned (.tuple #[.agg zF,.bool false])∧af au w w':=by
 have HB:=ae<|Box.fresh w 87 zF;have HO:=ae<|(af.ai au w).alloc (.cells zF 87);have HH:=qC b (h.keep HO);rw[decide_eq_false (h.XN hb)]at HH;have HH:=ae HH;clear h hb
 go_enter Tryz.func67,Tryz.ntmps67
 go_upto_region 1 with fail;change Code.wp _ _ _ _ (w.alloc (.cells zF 87));generalize w.alloc (.cells zF 87)=W at *;obtain⟨rb,km⟩:∃rb,rb=w.heap.size:=⟨_,rfl⟩;have rB:=aq (w.heap.size≤rb) (Nat.le_of_eq km.symm);rw[←km]at HB ⊢;clear km;go_upto_region 2 with(go_at_call 97;refine HH.mono ?_;rintro e W1 ⟨rfl,aK⟩);have b8:=ae<|aK.ak HB id;have bc:=ae<|HO.trans aK;clear aK;go_wp2_with (refine iP zF b8 dm ?_);refine bodyPost_ret (kG rfl _ _ rb _ zF (0,0) _ rfl (b8.aw _) Tryz.underlying87 rfl aS) rfl ?_;exact⟨rfl,bc.aw (.inr rB) _⟩
theorem CZ {b:Int}{l:List Int}{dv:Value}(h:bH K i w cb mb c hv aP s D)(hb:D b=some (l,dv)):
 Calls Tryz.prog 67 #[aO cb,ah b] w (Zu K i cb mb c hv aP s D b l dv w):=by
 have hV:=h.Gb hb;have Tk:=ae hV;have HB:=ae<|Box.fresh w 87 zF;have HO:=ae<|(af.ai au w).alloc (.cells zF 87);have H:=ae<|h.keep HO;have HH:=qC b H;rw[decide_eq_true hV]at HH;have HH:=ae HH;have Jv:=(K.oc i).lC h.ord hV;have HI:=aq (Ba b) (⟨aj,aj⟩);have HU:=ae fun w' (hC:bH K i w' cb mb c hv aP s D)=>(K.oc i).rem hC.ord hV
 have hm:=(K.oc i).KA.m;have he:=(K.oc i).KA.e;have HV:=ae (show xA D b=some dv by unfold xA;rw[hb];rfl);have HD:=ae hb;have cD:=ae<|(K.oc i).lt h.ord;have AO:=ae h.ak.lt;have HLD:=ae fun y l' v' (hy:D y=some (l',v'))=>h.ltD hy
 have HLH:=ae h.ltH;have vg:=ae h.map.lt;obtain⟨_,_,g0,wP,e0,Wv,_⟩:=h.kz b l dv hb;have HG0:=ae Wv;have HE0:=ae e0;clear h hb hV Jv Wv
 go_enter Tryz.func67,Tryz.ntmps67
 go_upto_region 1 with fail;change Code.wp _ _ _ _ (w.alloc (.cells zF 87));generalize w.alloc (.cells zF 87)=W at *;obtain⟨rb,km⟩:∃rb,rb=w.heap.size:=⟨_,rfl⟩;have rB:=aq (w.heap.size≤rb) (Nat.le_of_eq km.symm);rw[←km]at HB ⊢;clear km;subst e0;go_upto_region 3 with(go_at_call 97;refine HH.mono ?_;rintro e W1 ⟨rfl,aK⟩);have H1:=ae<|H.keep aK;have b8:=ae<|aK.ak HB id;have bc:=ae<|HO.trans aK;clear aK HB HO H HH;have x1:aM W1 cb 19 (.map (some mb)):=H1.ak.ag (xP _ _ _ _ _ _);have ND:=mz (P:=Tryz.prog) H1.map GG Tryz.underlying3 (z:=aT) aS HI;rw[HV.out,Option.getD_some]at ND;go_upto_region 4 with(refine iP #[ah b,bp g0 l.length wP] (Box.fresh W1 87 zF) aU ?_);have bq:af au W1 ((W1.alloc (.cells zF 87)).setRow W1.heap.size #[ah b,bp g0 l.length wP]):=((af.ai au W1).alloc _).aw (.inr (dX _)) _;have Gk:=(Box.fresh W1 87 zF).aw #[ah b,bp g0 l.length wP];have lE:=ae Gk;have H2:=ae<|H1.keep bq;have dG:=ae<|bq.ak b8 id;have bu:=ae<|bc.trans bq;clear bq Gk x1 ND b8;change Code.wp _ _ _ _ ((W1.alloc (.cells zF 87)).setRow W1.heap.size #[ah b,bp g0 l.length wP]);generalize(W1.alloc (.cells zF 87)).setRow W1.heap.size #[ah b,bp g0 l.length wP]=W2 at *;obtain⟨fb,iQ⟩:∃fb,fb=W1.heap.size:=⟨_,rfl⟩;have Xs:=ae (show w.heap.size≤fb by rw[iQ];exact bc.size);rw[←iQ]at lE ⊢;clear iQ;have x2:aM W2 cb 18 (.iface K.t (K.x i)):=H2.ak.ag (xO _ _ _ _ _ _);go_upto_region 5 with(refine(HU W2 H2).mono ?_;rintro e W3 ⟨rfl,wK,bV⟩);have ej:=ae wK;have bI:=ae bV;have XY:¬K.F i rb:=fun e=>by have:=cD.out _ e;have:=rB.out;omega
 have X0:¬K.F i fb:=fun e=>by have:=cD.out _ e;have:=Xs.out;omega
 have hG:=ae<|bV.ak dG XY;have vj:=ae<|bV.ak lE X0;have w9:=ae<|H2.map.ar bV H2.yN;have x3:aM W3 cb 19 (.map (some mb)):=bV.cell (H2.ak.ag (xP _ _ _ _ _ _)) H2.Al;clear wK bV x2 hm he XY X0 dG lE;obtain⟨u5,W4,GI,QP,ey⟩:=sY (P:=Tryz.prog) w9 GG Tryz.underlying3 HI 0;rw[FD]at QP;have cr:=ae ey;have SD:=ae<|H2.less Tk ej bI QP ey;have sc:=ae (ey.ak hG fun e=>by have h1:rb=mb:=e;have:=vg.out;have:=rB.out;omega);have JN:=ae (ey.ak vj fun e=>by have h1:fb=mb:=e;have:=vg.out;have:=Xs.out;omega);have Kh:=ae<|(H2.kz b _ _ HD).q7 ((bI.mono (S':=Ft (K.F i) mb) fun k hk=>.inl (.inl hk)).aG ey fun k hk=>.inl (.inr hk));clear QP ey w9 hG vj;go_upto_region 6 with fail;clear GI x3;go_wp2_with (first|(refine iy #[ah b,bp g0 l.length wP] JN Tryz.underlying87 ?_)|(refine iP #[ah b,bp g0 l.length wP] sc aU ?_));refine bodyPost_ret (kG rfl _ _ rb _ #[ah b,bp g0 l.length wP] (0,0) _ rfl (sc.aw _) Tryz.underlying87 rfl aS) rfl ?_;have fz:af (az rb) W4 (W4.setRow rb #[ah b,bp g0 l.length wP]):=(af.ai (az rb) W4).aw (.inl (show az rb rb from rfl)) _;have how:af (Ft (K.F i) mb) w (W4.setRow rb #[ah b,bp g0 l.length wP]):=
  (((bu.mono (S':=Ft (K.F i) mb) fun k hk=>hk.elim).aG bI fun k hk=>.inl (.inl hk)).aG cr fun k hk=>.inl (.inr hk)).aG fz fun k hk=>.inr (by
   rw[show k=rb from hk];exact rB)
 have hn:∀k,k<w.heap.size→¬az rb k:=fun k hk e=>by rw[show k=rb from e]at hk;have:=rB.out;omega
 refine⟨rfl,SD.off fz (fun k hk=>hn k (cD k hk)) (hn cb AO) (hn mb vg) (fun y l' v' hy k hk=>hn k (HLD y l' v' (by unfold aV at hy;split at hy;cases hy;exact hy) k hk)) fun h0 k hk=>hn k (HLH h0 k hk),?_,how⟩;obtain⟨a1,a2,g,ca,e,a3,a4⟩:=Kh.out;injection e with e;injection e with e;injection e with e;subst e;exact⟨a1,a2.ar fz fun k hk=>hn k (by rw[←aD.1 hk];exact HG0),g0,_,rfl,Nat.lt_of_lt_of_le a3 fz.size,a4⟩
end
section
variable {K:bj}{i:K.ι}{w w':World}{cb mb:Nat}{c:aQ}{hv:Value}{aP:Nat}{s s':K.σ}{D:Int→Option ll}
theorem bH.other (h:bH K i w cb mb c hv aP s D){b:Int}{p q:ll}(hb:D b=some p)(hm:fK w' mb (xA (aV D b (some q))))(ho:af (az mb) w w')(hd:zk w' cb mb (K.F i) (c.f 3) q.1 q.2):
 bH K i w' cb mb c hv aP s (aV D b (some q)) where
 ak:=ho.ak h.ak h.cm
 ord:=(K.oc i).ar h.ord ho fun k hk e=>h.yN (by rw[←show k=mb from e];exact hk)
 map:=hm
 keys:=fun y=>by
  unfold aV
  by_cases e:y=b
  ·rw[if_pos e,e,←h.keys b,hb];simp
  ·rw[if_neg e];exact h.keys y
 kz:=fun y l v hy=>by
  unfold aV at hy
  split at hy
  ·injection hy with hy;rw[hy]at hd;exact hd
  ·exact(h.kz y l v hy).q7 (ho.mono fun k hk=>.inl (.inr hk))
 Al:=h.Al
 yN:=h.yN
 right:=h.right
 t1:=h.t1
 t3:=h.t3
 bL:=by
  obtain⟨A,n,cp,e,h8,h9⟩:=h.bL;exact⟨A,n,cp,e,h8.q7 ho fun h0 k hk=>(h9 h0 k (e▸hk)).2.2,h9⟩
end
end
section
open Go.ChangeShapes Go.MapKept Go.Maps Go.RowKit Go.WideShapes
section
variable {KO:bj}{i:KO.ι}{w:World}{cb mb:Nat}{c:aQ}{hv:Value}{aP:Nat}{s:KO.σ}{D:Int→Option ll}
end
end
section
open Go.ChangeShapes Go.RowKit Go.WideShapes
def mr (K:bj)(i:K.ι)(cb mb:Nat)(c:aQ)(hv:Value)(D:Int→Option ll)(k:Nat):Prop:=K.F i k∨k=cb∨k=mb∨(∃b l v,D b=some (l,v)∧aJ v k)∨(0<c.h.length∧aJ hv k)
theorem bH.Yh {K:bj}{i:K.ι}{w w':World}{cb mb:Nat}{c:aQ}{hv:Value}{aP:Nat}{s:K.σ}{D:Int→Option ll}{S:Nat→Prop}(h:bH K i w cb mb c hv aP s D)(ho:af S w w')(hS:∀k,mr K i cb mb c hv D k→¬S k):bH K i w' cb mb c hv aP s D:=
 {ak:=ho.ak h.ak (hS _ (.inr (.inl rfl))),ord:=(K.oc i).ar h.ord ho fun k hk=>hS k (.inl hk),map:=h.map.ar ho (hS _ (.inr (.inr (.inl rfl)))),keys:=h.keys,Al:=h.Al,yN:=h.yN,right:=h.right,t1:=h.t1,t3:=h.t3,kz:=fun b l v hb=>by
   obtain⟨h1,h2,g,ca,rfl,h3,h4⟩:=h.kz b l v hb;exact⟨h1,h2.ar ho fun k hk=>hS k (.inr (.inr (.inr (.inl ⟨b,l,_,hb,hk⟩)))),g,ca,rfl,Nat.lt_of_lt_of_le h3 ho.size,h4⟩,bL:=by
   obtain⟨A,n,cp,h1,h2,h3⟩:=h.bL;exact⟨A,n,cp,h1,h2.q7 ho fun h0 k hk=>hS k (.inr (.inr (.inr (.inr ⟨h0,h1▸hk⟩)))),h3⟩}
theorem aX.lt {w:World}{A:Option Addr}{n c:Nat}{l:List aH}(h:aX w A n c l)(h0:0<l.length){k:Nat}(hk:aJ (.slice A n c) k):k<w.heap.size:=by
 obtain⟨g,o,e,hg,_⟩:=h.at_ 0 h0;subst e;rw[←aD.1 hk];exact hg
theorem bH.Rr {K:bj}{i:K.ι}{w:World}{cb mb:Nat}{c:aQ}{hv:Value}{aP:Nat}{s:K.σ}{D:Int→Option ll}(h:bH K i w cb mb c hv aP s D){k:Nat}(hk:mr K i cb mb c hv D k):k<w.heap.size:=by
 rcases hk with hk|rfl|rfl|⟨b,l,v,hb,hk⟩|⟨h0,hk⟩
 ·exact(K.oc i).lt h.ord k hk
 ·exact h.ak.lt
 ·exact h.map.lt
 ·obtain⟨_,_,g,ca,rfl,h3,_⟩:=h.kz b l v hb;rw[←aD.1 hk];exact h3
 ·obtain⟨A,n,cp,h1,h2,_⟩:=h.bL;exact h2.lt h0 (h1▸hk)
section
end
section
end
end
end Go.Proofs.YtpcfhbeakecihaaGreat

/- Lemmas. -/
import Derived.Test.YtpcfhbeakecihaaGreatM10
import Derived.Test.YtpcfhbeakecihaaGreatM23
set_option linter.all false
set_option maxHeartbeats 20000000
set_option maxRecDepth 100000
namespace Go.Proofs.YtpcfhbeakecihaaGreat
section
open Go.ChangeShapes Go.RowKit Go.WideShapes
def bO (c:aN)(hv:Value)(aw:Nat)(t:TypeId)(x:Value)(mb:Nat):Array Value:=aj c hv ++ #[ah aw,.iface t x,.map (some mb)]
theorem dx{P:Prop}(h:P:=by
 rw[Array.getElem?_append_left (by show i<17;omega)];exact aB c hv hi):P:=h
theorem lZ (c:aN)(hv:Value)(aw:Nat)(t:TypeId)(x:Value)(mb:Nat){i:Nat}(hi:i<16):(bO c hv aw t x mb)[i]? =some (ah (c.f i)):=by
 unfold bO;exact dx
theorem wo (c:aN)(hv:Value)(aw:Nat)(t:TypeId)(x:Value)(mb:Nat):(bO c hv aw t x mb)[17]? =some (ah aw):=rfl
theorem lX (c:aN)(hv:Value)(aw:Nat)(t:TypeId)(x:Value)(mb:Nat):(bO c hv aw t x mb)[18]? =some (.iface t x):=rfl
theorem lY (c:aN)(hv:Value)(aw:Nat)(t:TypeId)(x:Value)(mb:Nat):(bO c hv aw t x mb)[19]? =some (.map (some mb)):=rfl
abbrev gA:=List Int×Value
def lM (D:Int→Option gA):Int→Option Value:=fun b=>(D b).map Prod.snd
def uF (w:World)(v:Value)(l:List Int):Prop:=b8 w v l∧∀k,aJ v k→∃cs,Box w k 5 cs
theorem uF.ao {S:Nat→Prop}{w w':World}{v:Value}{l:List Int}(h:uF w v l)(ho:af S w w')(hn:∀k,aJ v k→¬S k):uF w' v l:=
 ⟨h.1.ao ho hn,fun k hk=>by obtain⟨cs,hb⟩:=h.2 k hk;exact⟨cs,ho.az hb (hn k hk)⟩⟩
structure mQ (w:World)(cb mb:Nat)(F:Nat→Prop)(size:Int)(l:List Int)(v:Value):Prop where
 len:(l.length:Int)=size
 row:uF w v l
 at_:∃g ca,v=cS g l.length ca∧g<w.heap.size∧g≠cb∧g≠mb∧¬F g
theorem mQ.nR {w:World}{cb mb:Nat}{F:Nat→Prop}{size:Int}{l:List Int}{v:Value}(h:mQ w cb mb F size l v):b8 w v l:=h.row.1
structure aQ (K:aZ)(i:K.ι)(w:World)(cb mb:Nat)(c:aN)(hv:Value)(aw:Nat)(s:K.σ)(D:Int→Option gA):Prop where
 az:Box w cb 106 (bO c hv aw K.t (K.x i) mb)
 ord:K.R i s w
 map:bZ w mb (lM D)
 keys:∀b,(D b).isSome=true↔b∈K.sp.all s
 kg:∀b l v,D b=some (l,v)→mQ w cb mb (K.F i) (c.f 3) l v
 nL:¬K.F i cb
 mJ:¬K.F i mb
 right:dJ c
 t1:1≤aw
 t3:aw≤3
 bI:∃A n cp,hv= .slice A n cp∧aL w A n cp c.h∧(0<c.h.length→∀k,aJ hv k→¬K.F i k∧k≠cb∧k≠mb)
section
variable {K:aZ}{i:K.ι}{w:World}{cb mb:Nat}{c:aN}{hv:Value}{aw:Nat}{s:K.σ}{D:Int→Option gA}
theorem aQ.cm (h:aQ K i w cb mb c hv aw s D):cb≠mb:=h.map.ne h.az
def CF (F:Nat→Prop)(cb mb:Nat):Nat→Prop:=fun k=>F k∨k=mb∨k=cb
theorem aQ.ao {S:Nat→Prop}{w':World}(h:aQ K i w cb mb c hv aw s D)(ho:af S w w')(hS:∀k,k<w.heap.size→¬S k):aQ K i w' cb mb c hv aw s D:=
 {az:=ho.az h.az (hS _ h.az.lt),ord:=(K.oc i).ao h.ord ho fun k hk=>hS k ((K.oc i).lt h.ord k hk),map:=h.map.ao ho (hS _ h.map.lt),keys:=h.keys,nL:=h.nL,mJ:=h.mJ,right:=h.right,t1:=h.t1,t3:=h.t3,kg:=fun b l v hb=>by
   obtain⟨h1,h2,g,ca,rfl,h3,h4⟩:=h.kg b l v hb;exact⟨h1,h2.ao ho fun k hk=>by rw[←aq.1 hk];exact hS g h3,g,ca,rfl,Nat.lt_of_lt_of_le h3 ho.size,h4⟩,bI:=by
   obtain⟨A,n,cp,h1,h2,h3⟩:=h.bI;exact⟨A,n,cp,h1,h2.ao ho hS,h3⟩}
theorem aQ.keep {w':World}(h:aQ K i w cb mb c hv aw s D)(ho:af aA w w'):aQ K i w' cb mb c hv aw s D:=h.ao ho fun _ _=>id
theorem ib (b:Int)(h:aQ K i w cb mb c hv aw s D):
 Calls Tryz.prog 97 #[aI cb,ah b] w fun e w'=>e= .returned (.bool (decide (b∈K.sp.all s)))∧af aA w w':=by
 have hx:ba w cb 18 (.iface K.t (K.x i)):=h.az.ag (lX _ _ _ _ _ _);have hm:=(K.oc i).uB.m;have he:=(K.oc i).uB.e;have HC:=ae<|(K.oc i).has b h.ord;generalize decide (b∈K.sp.all s)=k at *;clear h
 go_enter Tryz.func97,Tryz.ntmps97
 go_wp2_with (refine HC.mono ?_;rintro e w1 ⟨rfl,h1⟩);go_ret;exact⟨rfl,h1⟩
theorem Gv (h:aQ K i w cb mb c hv aw s D):
 Calls Tryz.prog 37 #[aI cb] w fun e w'=>∃v,e= .returned v∧aC 3 w' w.heap.size v (K.sp.all s)∧af aA w w':=by
 have hx:ba w cb 18 (.iface K.t (K.x i)):=h.az.ag (lX _ _ _ _ _ _);have hm:=(K.oc i).uC.m;have he:=(K.oc i).uC.e;have HC:=ae<|(K.oc i).all h.ord;clear h
 go_enter Tryz.func37,Tryz.ntmps37
 go_wp2_with (refine HC.mono ?_;rintro e w1 ⟨v,rfl,h1,h2⟩);go_ret;exact⟨v,rfl,h1,h2⟩
theorem fH{P:Prop}(h:P:=by
 rw[dq,dF];clear dq dF
 go_enter Tryz.func121,Tryz.ntmps121
 go_wp2;go_ret;exact⟨rfl,rfl⟩):P:=h
theorem dR (b:Int)(h:aQ K i w cb mb c hv aw s D):
 Calls Tryz.prog 121 #[aI cb,ah b] w fun e w'=>e= .returned (.bool (decide (0≤b)&&decide (b<c.f 2)))∧w=w':=by
 have hx:aF w cb 2 (c.f 2):=h.az.ag (lZ _ _ _ _ _ _ av);generalize c.f 2=n at *;clear h
 by_cases h1:0≤b
 ·have dq:decide (0≤b)=true:=by simp[h1]
  by_cases h2:b<n
  ·have dF:decide (b<n)=true:=by simp[h2]
   exact fH
  ·have dF:decide (b<n)=false:=by simp[h2]
   exact fH
 ·have dq:decide (0≤b)=false:=by simp[h1]
  rw[dq];clear dq
  go_enter Tryz.func121,Tryz.ntmps121
  go_wp2;go_ret;exact⟨rfl,rfl⟩
def mR (c:aN)(aw:Nat)(b level:Int):Bool:=decide (0≤b)&&decide (b<c.f 2)&&(decide (c.f 5≠1)||decide (level=aw))
theorem fQ{P:Prop}(h:P:=by
 go_enter Tryz.func98,Tryz.ntmps98
 go_wp2_with (go_at_call 121;refine HT.mono ?_;rintro e w1 ⟨rfl,rfl⟩);go_ret;exact⟨rfl,rfl⟩):P:=h
theorem my (b level:Int)(h:aQ K i w cb mb c hv aw s D)(hp:c.f 5≠2):
 Calls Tryz.prog 98 #[aI cb,ah b,ah level] w fun e w'=>e= .returned (.bool (mR c aw b level))∧w=w':=by
 have JX:aF w cb 5 (c.f 5):=h.az.ag (lZ _ _ _ _ _ _ av);have rh:aF w cb 17 aw:=h.az.ag (wo _ _ _ _ _ _);have HT:=dR b h;unfold mR;generalize(decide (0≤b)&&decide (b<c.f 2))=k at *;have HT:=ae HT;generalize c.f 5=pl at *;clear h
 cases k with
 |false=>
  exact fQ
 |true=>
  by_cases h1:pl=1
  ·by_cases h2:level=aw
   ·have e:(true&&(decide (pl≠1)||decide (level=(aw:Int))))=true:=by simp[h2]
    rw[e];clear e
    go_enter Tryz.func98,Tryz.ntmps98
    go_wp2_with (go_at_call 121;refine HT.mono ?_;rintro e w1 ⟨rfl,rfl⟩);go_ret;exact⟨by simp,rfl⟩
   ·have e:(true&&(decide (pl≠1)||decide (level=(aw:Int))))=false:=by simp[h1,h2]
    rw[e];clear e;have QN:(level==(aw:Int))=false:=by simpa using h2
    go_enter Tryz.func98,Tryz.ntmps98
    go_wp2_with (go_at_call 121;refine HT.mono ?_;rintro e w1 ⟨rfl,rfl⟩);go_ret;exact⟨by simp[h2],rfl⟩
  ·have e:(true&&(decide (pl≠1)||decide (level=(aw:Int))))=true:=by simp[h1]
   rw[e];clear e;exact fQ
end
def uK (K:aZ)(w:World)(e:Ending)(w':World):Prop:=∃i,e= .returned (.iface K.t (K.x i))∧K.R i K.s0 w'∧(∀k,K.F i k→w.heap.size≤k)∧af aA w w'
def aZ.Made (K:aZ)(c:aN)(aw:Nat):Prop:=
 ∀(w:World) (A:Option Addr) (n cp:Nat),aL w A n cp c.h→Calls Tryz.prog 53 #[.agg (aj c (.slice A n cp)),ah aw] w (uK K w)
section
theorem fX{P:Prop}(h:P:=by
 rcases hj with rfl|rfl|rfl
 ·exact Nat.le_trans hsz h2
 ·exact Nat.le_trans hsz h3
 ·exact Nat.le_trans hsz h4):P:=h
theorem gS {c:aN}{k:Nat}(hP:dJ c)(hk:k<3)(hp:c.f 5≠2)(hq:c.f (6+k)≠2):(lB (c.f (9+k)).toNat).Made c (k+1):=by
 intro w A n cp bI;have hc:=hP.pc k hk;obtain⟨cap,nZ⟩:=Int.eq_ofNat_of_zero_le (show 0≤c.f (9+k) by omega);rw[nZ]at hc;rw[nZ,Int.toNat_natCast];have HN:=fun w=>ym (cap:=cap) w ai ai
 have HN:=ae HN;clear bI hP hc;have hw:IntKind.i64.wrap (((k+1:Nat):Int) - 1)=k:=by rw[IntKind.wrap_i64];omega
 have wH:(k:Int)<3:=ai;have hcell:=fun(W:World) (bb:Nat) (hb:Box W bb 25 (aj c (.slice A n cp))) (i:Nat) (hi:i<16)=>hb.ag (aB c (.slice A n cp) hi)
 have HC:=ae hcell;have HF:=ae nZ;have HQ:=ae hq;clear hcell nZ hq
 go_enter Tryz.func53,Tryz.ntmps53
 go_upto_region 1 with fail;have HB:=ae<|Box.fresh w 25 (aj c (.slice A n cp));have HO:=ae<|(af.ak aA w).alloc (.cells (aj c (.slice A n cp)) 25);generalize w.alloc (.cells (aj c (.slice A n cp)) 25)=W1 at *;generalize w.heap.size=bb at *;have c5:=HC.out W1 bb HB 5 av;have c6:=HC.out W1 bb HB (6+k) ai;have c9:=HC.out W1 bb HB (9+k) ai;rw[HF.out]at c9;have hq:=HQ.out;generalize c.f 5=f5 at *;generalize c.f (6+k)=f6 at *;have Ca:=ae<|HN W1;clear HC HF HQ HN;go_wp2_with (go_at_call 84;refine Ca.mono ?_;rintro e W2 ⟨p,g,eb,rfl,h1,h2,h3,h4,h5⟩);go_ret;have hsz:=HO.size;refine⟨(p,g,eb),rfl,⟨h1,eK _⟩,fun j hj=>?_,HO.trans h5⟩;exact fX
end
theorem cj {P:Program}{ops:Array Oper}{rest:List Oper}{o:Oper}{a:Act}{w:World}{Q:Exit→Act→World→Prop}(jX:o.guard=none)(t:TypeId)(parts:Array (Nat×Operand))(ho:o.op= .build t parts)
 (pv:List (Nat×Value)) (cells:Array Value) (hf:(parts.map fun(i,x)=>(i,a.eval x)).toList=pv) (hb:P.built t pv=some cells) (h:wpList P ops Q rest (a.put o.dst (.agg cells)) w):wpList P ops Q (o :: rest) a w:=
 wpList_plain jX fun K hK=>Go.wp_build t parts ho (by rw[hf,hb];rfl) (by rw[hf,hb];exact hK _ _ h)
theorem tH (c:aN)(hv:Value)(A:Option Addr)(n cp:Nat)(aw:Int)(t:TypeId)(x:Value)(mb:Nat):Tryz.prog.built 106 [(0,.agg (aj c (.slice A n cp))),(1,ah aw),(2,.iface t x),(3,.map (some mb))]=some (aj c (.slice A n cp) ++ #[ah aw,.iface t x,.map (some mb)]):=by kernel_rfl
def Es (K:aZ)(c:aN)(aw:Nat)(w:World)(e:Ending)(w':World):Prop:=
 ∃i cb mb hv,e= .returned (.tuple #[aI cb,ah 0])∧aQ K i w' cb mb c hv aw K.s0 (fun _=>none)∧(∀k,K.F i k→w.heap.size≤k)∧w.heap.size≤cb∧w.heap.size≤mb∧(0<c.h.length→∀k,aJ hv k→w.heap.size≤k)∧af aA w w'
section
theorem aL.jB {S:Nat→Prop}{w w':World}{A:Option Addr}{n c:Nat}{l:List au}(h:aL w A n c l)(ho:af S w w')(hS:0<l.length→∀k,aJ (.slice A n c) k→¬S k):aL w' A n c l:=
 ⟨h.len,h.cap,h.max,fun i hi=>by
  obtain⟨g,o,e,hg,h0,h1,h2,h3⟩:=h.at_ i hi;have hn:=hS ai g (by rw[e];exact aq.2 rfl);exact⟨g,o,e,Nat.lt_of_lt_of_le hg ho.size,ho.cell h0 hn,ho.cell h1 hn,ho.cell h2 hn,ho.cell h3 hn⟩⟩
theorem fR{P:Prop}(h:P:=by
 refine cj rfl _ _ rfl [(0,.agg (aj c (.slice B c.h.length ir))),(1,ah aw),(2,.iface KO.t (KO.x i)),(3,.map (some mb))] _ ?_ (tH c (.slice B c.h.length ir) B c.h.length ir aw KO.t (KO.x i) mb) ?_
 ·simp[Act.eval]
 go_wp2;go_ret2;have jY:=Box.fresh W6 106 (bO c (.slice B c.h.length ir) aw KO.t (KO.x i) mb);have mK:af aA W6 (W6.alloc (.cells (bO c (.slice B c.h.length ir) aw KO.t (KO.x i) mb) 106)):=(af.ak _ _).alloc _;have Ac:=jb.size;have J8:=lO.size;refine⟨i,W6.heap.size,mb,_,rfl,{az:=jY,ord:=(KO.oc i).ao FU mK fun _ _=>id,map:=HM.keep mK,keys:=fun b=>by rw[KO.nil];simp,kg:=fun b l v h=>(by cases h),nL:=fun h=>by have:=cT.out _ h;omega,mJ:=tW.out,right:=HP.out,t1:=h1,t3:=h3,bI:=⟨B,c.h.length,ir,rfl,IF.keep (lO.trans mK),fun h0 k hk=>?_⟩},fun k hk=>Nat.le_trans Ac (IH k hk),Nat.le_trans Ac J8,Nat.le_trans Ac xh,fun h0 k hk=>(HW h0 k hk).2,jb.trans (lO.trans mK)⟩;have wH:=(HW h0 k hk).1;rw[←iw.out]at wH;refine⟨fun h=>by have:=IH.out k h;omega,ai,fun e=>by have:=xh.out;omega⟩):P:=h
theorem bP{P:Prop}(h:P:=by
 exact⟨by first|exact aX.1.alloc _|exact C4|exact C4.alloc _|exact uo,by first|exact aX.2.alloc _|exact C0|exact C0.alloc _|exact(af.ak aA W4).drew⟩):P:=h
theorem r8 {KO:aZ}{c:aN}{aw:Nat}(hK:KO.Made c aw)(hP:dJ c)(h1:1≤aw)(h3:aw≤3){A:Option Addr}{n cp:Nat}(w:World)(bI:aL w A n cp c.h):
 Calls Tryz.prog 29 #[.agg (aj c (.slice A n cp)),ah aw] w (Es KO c aw w):=by
 have HK:=ae hK;have HP:=ae hP;have hlen:c.h.length≤100:=by have:=hP.hs.2.2;omega
 have HL:=ae hlen;have HI:=ae bI;have GO:¬(aw:Int)<1:=ai;have Nz:¬(3:Int)<aw:=ai;clear hK hP hlen bI
 go_enter Tryz.func29,Tryz.ntmps29
 go_upto_region 1 with fail;have cQ:=ae<|Box.fresh w 25 (aj c (.slice A n cp));have bw:=ae<|(af.ak aA w).alloc (.cells (aj c (.slice A n cp)) 25);have Ce:=ae<|HI.keep bw;generalize w.alloc (.cells (aj c (.slice A n cp)) 25)=W1 at *;obtain⟨bb,BX⟩:∃bb,bb=w.heap.size:=⟨_,rfl⟩;have MH:=aH (w.heap.size≤bb) (Nat.le_of_eq BX.symm);rw[←BX]at cQ ⊢;clear BX HI;have hr:=jM A n cp c W1 Ce;rw[oZ HP.out]at hr;have HR:=ae hr;clear hr;go_upto_region 3 with(first|(refine pL (aj c (.slice A n cp)) cQ Tryz.underlying25 ?_)|(go_at_call 51;refine HR.mono ?_;rintro e W2 ⟨rfl,bd⟩));have eC:=ae<|bd.az cQ id;have Mp:=ae<|Ce.keep bd;have bR:=ae<|bw.trans bd;clear bd cQ Ce bw HR;have DM:ba W2 bb 16 (.slice A n cp):=eC.ag (eu c _);have F6:=ae<|qP W2 Mp HL;go_upto_region 4 with(go_at_call 52;refine F6.mono ?_;rintro e W3 ⟨B,ir,rfl,BV,bQ,lV⟩;have kj:=ae<|bQ.az eC id;have Ei:ba W3 bb 16 (.slice A n cp):=bQ.cell DM id;have Jf:=kj.free 16);have KS:af aA w (W3.setCell ⟨bb,16,none⟩ (.slice B c.h.length ir)):=(bR.trans bQ).setCell (p:=⟨bb,16,none⟩) (.inr MH) _;have KX:Box (W3.setCell ⟨bb,16,none⟩ (.slice B c.h.length ir)) bb 25 (aj c (.slice B c.h.length ir)):=kj.store 16 (.slice B c.h.length ir);have KT:aL (W3.setCell ⟨bb,16,none⟩ (.slice B c.h.length ir)) B c.h.length ir c.h:=BV.jB (S:=aM bb) ((af.ak (aM bb) W3).setCell (p:=⟨bb,16,none⟩) (.inl (show aM bb bb from rfl)) _) fun _ k hk e=>by
  have h1:=lV k hk;have h2:=eC.lt;have h3:k=bb:=e;omega
 have jb:=ae KS;have uo:=ae KX;have IF:=ae KT;have HW:=aH (0<c.h.length→∀k,aJ (.slice B c.h.length ir) k→k<W3.heap.size∧w.heap.size≤k) (fun h0 k hk=>by
  have I7:=Nat.le_trans bR.size (lV k hk);obtain⟨g,o,e,hg,_⟩:=BV.at_ 0 h0;subst e;refine⟨?_,I7⟩;rw[←aq.1 hk];exact hg)
 have iw:=ae (show(W3.setCell ⟨bb,16,none⟩ (.slice B c.h.length ir)).heap.size=W3.heap.size by simp[World.setCell]);change Code.wp _ _ _ _ (W3.setCell ⟨bb,16,none⟩ (.slice B c.h.length ir));clear KS KX KT BV bQ lV kj Ei Jf eC Mp bR DM F6;generalize W3.setCell ⟨bb,16,none⟩ (.slice B c.h.length ir)=W4 at *;have nM:= @run_makeMap Tryz.prog;refine kb (fun w':World=>Box w' bb 25 (aj c (.slice B c.h.length ir))∧af aA W4 w') 6 ?_ ?_
 ·exact bP
 intro aX;refine bj (i:=0) (v:=.agg (aj c (.slice B c.h.length ir))) bJ rfl bJ (fun _ _ _ h=>h) (yieldsIf_load_mid (by rfl) 25 _ rfl bb 0 rfl (aj c (.slice B c.h.length ir)).toList _ (fun w hw j v hj=>by rw[Nat.zero_add];exact hw.1.ag (by rw[←Array.getElem?_toList];exact hj)) Tryz.underlying25 rfl bJ) (by assumption) ?_;refine sd ?_;refine eZ [1] ?_;refine bj (i:=2) (v:=.agg (aj c (.slice B c.h.length ir))) bJ rfl bJ (fun _ _ _ h=>h) (yieldsIf_load_mid (by rfl) 25 _ rfl bb 0 rfl (aj c (.slice B c.h.length ir)).toList _ (fun w hw j v hj=>by rw[Nat.zero_add];exact hw.1.ag (by rw[←Array.getElem?_toList];exact hj)) Tryz.underlying25 rfl bJ) (by assumption) ?_;refine sd ?_;refine eZ [3] ?_;refine vu (i:=4) (j:=5) rfl rfl bJ (fun K hK=>?_) (fun K hK=>?_)
 ·go_simp;refine(HK W4.drew B c.h.length ir (IF.keep ((af.ak aA W4).drew))).mono ?_;rintro e W5 ⟨i,rfl,hR,hF,eD⟩;have C0:af aA W4 W5:=((af.ak aA W4).drew).trans eD;have C4:=eD.az aX.1 id;have wN:=ae hR;have xk:=ae hF;have Dk:=ae eD;clear hR hF eD;refine lj hK ?_ fun aX=>?_
  ·exact bP
  clear hK;refine lh 5 fun K hK=>?_
  go_simp
  skip
  refine lj hK ?_ fun aX=>?_
  ·exact bP
  clear hK;refine jz ?_;have HM:=aH (bZ (W5.alloc (.map #[] 0)) W5.heap.size (lM fun _=>none)) (bZ.made W5);have aO:=(KO.oc i).lt wN;have nQ:af aA W5 (W5.alloc (.map #[] 0)):=(af.ak aA W5).alloc _;have FU:=aH (KO.R i KO.s0 (W5.alloc (.map #[] 0))) ((KO.oc i).ao wN nQ fun _ _=>id);have tW:=aH (¬KO.F i W5.heap.size) (fun h=>by have:=aO _ h;omega);have IH:=aH (∀k,KO.F i k→W4.heap.size≤k) (fun k hk=>xk k hk);have xh:=aH (W4.heap.size≤W5.heap.size) (Dk.size);have lO:=ae aX.2;have cT:=aH (∀k,KO.F i k→k<(W5.alloc (.map #[] 0)).heap.size) (fun k hk=>by have:=aO k hk;rw[World.size_alloc];omega);clear aO nQ aX C4 C0 wN xk Dk;generalize(W5.alloc (.map #[] 0))=W6 at *;generalize W5.heap.size=mb at *;exact fR
 ·go_simp
  skip
  refine lj hK ?_ fun aX=>?_
  ·exact bP
  clear hK;refine lh 4 fun K hK=>?_
  go_simp;refine(HK (W4.drew.alloc (.map #[] 0)) B c.h.length ir (IF.keep (((af.ak aA W4).drew).alloc (.map #[] 0)))).mono ?_;rintro e W5 ⟨i,rfl,hR,hF,eD⟩;have C0:af aA W4 W5:=(((af.ak aA W4).drew).alloc (.map #[] 0)).trans eD;have C4:=eD.az aX.1 id;have wN:=ae hR;have xk:=ae hF;have Dk:=ae eD;clear hR hF eD;refine lj hK ?_ fun aX=>?_
  ·exact bP
  clear hK;refine jz ?_;have HM:=(show bZ W5 W4.heap.size (lM fun _=>none)from(bZ.made W4.drew).keep Dk);have aO:=(KO.oc i).lt wN;have FU:=wN;have tW:=(show¬KO.F i W4.heap.size from fun h=>by have h1:=xk.out _ h;rw[World.size_alloc]at h1;have h2:W4.drew.heap.size=W4.heap.size:=rfl;omega);have IH:=aH (∀k,KO.F i k→W4.heap.size≤k) (fun k hk=>by have h1:=xk.out _ hk;rw[World.size_alloc]at h1;have h2:W4.drew.heap.size=W4.heap.size:=rfl;omega);have lO:=ae aX.2;have cT:=ae aO;clear aO aX C4 C0 wN xk Dk;obtain⟨mb,ud⟩:∃mb,mb=W4.heap.size:=⟨_,rfl⟩;have xh:=aH (W4.heap.size≤mb) (Nat.le_of_eq ud.symm);rw[←ud]at HM tW;have HM:=ae HM;have tW:=ae tW;rw[←ud];clear ud;generalize W5=W6 at *;exact fR
end
def Az (D:Int→Option gA)(g:Bool)(v b:Int)(p:gA):Int→Option gA:=aD (if g=true then aD D v none else D) b (some p)
def kx (D:Int→Option gA)(g:Bool)(v:Int):Value:=if g=true then((D v).map Prod.snd).getD ey else ey
theorem xI (D:Int→Option gA)(b:Int)(p:gA):od (lM D) b p.2=lM (aD D b (some p)):=by
 funext x
 unfold od lM aD
 split<;>rfl
theorem rH (D:Int→Option gA)(b:Int):qd (lM D) b=lM (aD D b none):=by
 funext x
 unfold qd lM aD
 split<;>rfl
def xm (F:Nat→Prop)(mb:Nat):Nat→Prop:=fun k=>F k∨k=mb
def nu (K:aZ)(i:K.ι)(cb mb:Nat)(c:aN)(hv:Value)(aw:Nat)(s:K.σ)(D:Int→Option gA)(b:Int)(dl:List Int)(w:World)(e:Ending)(w':World):Prop:=
 ∃vv,e= .returned (.tuple #[.agg #[ah (K.sp.add s b).2.1,kx D (K.sp.add s b).2.2 (K.sp.add s b).2.1],.bool (K.sp.add s b).2.2,ah 0])∧
  aQ K i w' cb mb c hv aw (K.sp.add s b).1 (Az D (K.sp.add s b).2.2 (K.sp.add s b).2.1 b (dl,vv))∧(∀k,aJ vv k→w.heap.size≤k)∧af (xm (K.F i) mb) w w'
theorem dm {P:Program}{fn:Func}{p u v:Tmp}{ty:TypeId}(h:fn.results=#[.cell p ty,.tmp u,.tmp v])(tmps:Array Value)(w:World)(g:Nat)(t:TypeId)(cs:Array Value)(fr:Nat×Nat)(d:TypeDesc)
 (hp:tmps.getD p undef=aI g) (hg:w.heap[g]? =some (.cells cs t fr))
 (hu:P.underlying ty=some d) (hd:(match d with| .struct _| .array _ _=>true|_=>false)=true) (hi:(P.info? ty).map (·.size)=some cs.size):
 (results fn tmps).run P w= .ok (.tuple #[.agg cs,tmps.getD u undef,tmps.getD v undef]) w:=by
 have iE:tmps[p]?.getD undef=aI g:=by simpa using hp
 simp[results,h,iE,asAddr,run_loadVar_row w g t ty cs fr d hg hu hd hi]
theorem vn {w:World}{v:Value}{l:List Int}(h:b8 w v l)(hl:0<l.length):∀k,aJ v k→k<w.heap.size:=by
 intro k hk;obtain⟨A,c,rfl,_,_,h3⟩:=h;obtain⟨g,o,rfl,hc⟩:=h3.at_ (i:=0) (by rw[List.length_map];exact hl) undef;rw[←aq.1 hk];exact World.block_lt_of_cell? w _ hc
theorem mQ.jB {w w':World}{cb mb:Nat}{F:Nat→Prop}{size:Int}{l:List Int}{v:Value}(h:mQ w cb mb F size l v)(ho:af (xm F mb) w w'):mQ w' cb mb F size l v:=by
 obtain⟨h1,h2,g,ca,rfl,h3,h4,h5,h6⟩:=h;exact⟨h1,h2.ao ho fun k hk e=>by rw[←aq.1 hk]at e;exact e.elim h6 h5,g,ca,rfl,Nat.lt_of_lt_of_le h3 ho.size,h4,h5,h6⟩
theorem sv:Tryz.prog.underlying 104=some (.map 3 35):=Tryz.underlying104
def Bv (W4:World)(mb rb:Nat)(D:Int→Option gA)(g:Bool)(v:Int)(wx:World):Prop:=
 Box wx rb 87 #[ah v,kx D g v]∧bZ wx mb (lM (if g=true then aD D v none else D))∧af (fun k=>k=mb∨k=rb) W4 wx
section
theorem r7 {KO:aZ}{i:KO.ι}{w:World}{cb mb:Nat}{c:aN}{hv:Value}{aw:Nat}{s:KO.σ}{D:Int→Option gA}(h:aQ KO i w cb mb c hv aw s D)
 {b:Int} {dl:List Int} {dv:Value} (eE:b8 w dv dl) (Ft:∀k,aJ dv k→¬KO.F i k∧k≠mb) (h0:0≤b) (h1:b<c.f 2) (hl:(dl.length:Int)=c.f 3) (level:Int)
 (HT:∀w',aQ KO i w' cb mb c hv aw s D→Calls Tryz.prog 98 #[aI cb,ah b,ah level] w' fun e dS=>e= .returned (.bool true)∧af aA w' dS)
 (ht:KO.sp.takes b) (qb:KO.sp.sk s<jH):
 Calls Tryz.prog 101 #[aI cb,.agg #[ah b,dv],ah level] w (nu KO i cb mb c hv aw s D b dl w):=by
 obtain⟨dA,dc,rfl,Am,Al,mN⟩:=id eE;have xw:b<64:=by have:=h.right.p2;omega
 have D5:=ae fun W (hR:KO.R i s W)=>(KO.oc i).add hR h0 xw ht qb
 have xE:=ae<|(KO.oc i).xx h.ord h0 xw ht;have Iu:=ae fun(v:Int) (hv:v∈KO.sp.all s)=>(KO.oc i).gr h.ord hv
 have lq:=fun W (hC:aQ KO i W cb mb c hv aw s D)=>dR b hC
 rw[show(decide (0≤b)&&decide (b<c.f 2))=true by simp[h0,h1]]at lq;have lq:=ae lq;have tU:=ae HT;have H:=ae h;have F8:=ae eE;have MA:=ae Ft;have F5:=ae (show 0<dl.length by have:=h.right.p3;omega);have PD:=ae<|vn eE F5;clear Ft;have HL:=ae hl;have Ds:=aH (0≤b∧b<64) (⟨h0,xw⟩);clear HT ht qb h eE hl mN h0 h1 xw Am Al
 go_enter Tryz.func101,Tryz.ntmps101
 go_upto_region 1 with fail;have dq:=Box.fresh w 87 #[ah b,.slice dA dl.length dc];have dF:=Box.fresh (w.alloc (.cells #[ah b,.slice dA dl.length dc] 87)) 87 #[ah 0,ey];rw[World.size_alloc]at dF;have dq:=dq.alloc (.cells #[ah 0,ey] 87);have a8:=((af.ak aA w).alloc (.cells #[ah b,.slice dA dl.length dc] 87)).alloc (.cells #[ah 0,ey] 87);have bw:=ae a8;have H1:=ae<|H.keep a8;have D4:=ae<|F8.ao a8 fun _ _=>id;have AH:=(KO.oc i).lt H.ord;have si:=H.az.lt;have ud:=H.map.lt;have w8:¬KO.F i w.heap.size:=fun e=>by have:=AH _ e;omega
 have GW:¬KO.F i (w.heap.size+1):=fun e=>by have:=AH _ e;omega
 have xc:w.heap.size≠cb∧w.heap.size≠mb∧w.heap.size+1≠cb∧w.heap.size+1≠mb∧w.heap.size≠w.heap.size+1∧w.heap.size≤w.heap.size+1:=⟨ai,ai,ai,ai,ai,ai⟩;have FY:=ae H.nL;have tW:=ae H.mJ;change Code.wp _ _ _ _ ((w.alloc (.cells #[ah b,.slice dA dl.length dc] 87)).alloc (.cells #[ah 0,ey] 87));clear a8 AH si ud F8;generalize(w.alloc (.cells #[ah b,.slice dA dl.length dc] 87)).alloc (.cells #[ah 0,ey] 87)=W1 at *;obtain⟨fb,jd⟩:∃fb,fb=w.heap.size:=⟨_,rfl⟩;obtain⟨rb,kf⟩:∃rb,rb=w.heap.size+1:=⟨_,rfl⟩;have iw:=aH (w.heap.size≤fb∧w.heap.size≤rb) (⟨ai,ai⟩);rw[←kf]at dF GW xc;rw[←jd]at dq w8 xc;rw[←kf,←jd];clear jd kf;have ki:=ae dq;have rr:=ae dF;have IA:=ae w8;have Me:=ae GW;have HD:=ae xc;clear dq dF w8 GW xc;have f0:aF W1 fb 0 b:=ki.ag rfl;have f1:ba W1 fb 1 (.slice dA dl.length dc):=ki.ag rfl;have s3:aF W1 cb 3 dl.length:=by rw[HL.out];exact H1.az.ag (lZ _ _ _ _ _ _ av)
 go_upto_region 5 with(go_at_call 121;refine(lq W1 H1).mono ?_;rintro e W ⟨rfl,rfl⟩);refine kb (fun w':World=>w'=W1.drew) 9 ?_ ?_
 ·rfl
 intro aX;refine eZ [0,1,2,3,4,5,6,7,8] ?_;refine jz ?_;clear aX lq;go_upto_region 7 with fail;have H2:=aH (aQ KO i W1.drew cb mb c hv aw s D) (H1.keep ((af.ak aA W1).drew));have sq:=aH (Box W1.drew fb 87 #[ah b,.slice dA dl.length dc]) (ki);have tT:=aH (Box W1.drew rb 87 #[ah 0,ey]) (rr);have D3:=aH (b8 W1.drew (.slice dA dl.length dc) dl) (D4);have bR:=ae bw.drew;clear f0 f1 s3 H1 ki rr D4 bw;generalize W1.drew=W2 at *;have f0:aF W2 fb 0 b:=sq.ag rfl;go_upto_region 9 with(go_at_call 98;refine(tU W2 H2).mono ?_;rintro e W3 ⟨rfl,bQ⟩);have H3:=ae<|H2.keep bQ;have Cg:=ae<|bQ.az sq id;have Df:=ae<|bQ.az tT id;have D2:=ae<|D3.ao bQ fun _ _=>id;have b7:=ae<|bR.trans bQ;clear bQ f0 H2 sq tT D3 bR tU;have k1:ba W3.drew cb 18 (.iface KO.t (KO.x i)):=H3.az.ag (lX _ _ _ _ _ _);have k2:aF W3.drew fb 0 b:=Cg.ag rfl;have B6:=aH (KO.R i s W3.drew) ((KO.oc i).ao H3.ord ((af.ak aA W3).drew) fun _ _=>id);have hm:=(KO.oc i).uD.m;have he:=(KO.oc i).uD.e;refine JP (fun w':World=>ba w' cb 18 (.iface KO.t (KO.x i))∧aF w' fb 0 b) 13 fun aX=>?_
 refine eZ [0,1,2,3,4,5] ?_;refine lh 6 fun K hK=>?_
 go_simp;refine(D5 W3.drew B6).mono ?_;rintro e W4 ⟨rfl,zc,gB⟩;have Aq:=ae zc;have jb:=ae gB;have k1:=gB.cell aX.1 FY;have k2:=gB.cell aX.2 IA;clear zc gB;refine JQ hK fun aX=>?_
 clear hK;refine eZ [7,8,9,10,11,12] ?_;refine jz ?_;clear aX k1 k2 B6 D5 hm he;have uM:=ae H3.keys;have D0:=ae H3.kg;have MC:=aH (aQ KO i W3.drew cb mb c hv aw s D) (H3.keep ((af.ak aA W3).drew));have uo:=ae<|jb.az MC.az FY;have Aw:=ae<|MC.map.ao jb tW;have F3:=ae<|jb.az (show Box W3.drew fb 87 #[ah b,.slice dA dl.length dc]from Cg) IA;have B4:=ae<|jb.az (show Box W3.drew rb 87 #[ah 0,ey]from Df) Me;have D1:=ae<|(show b8 W3.drew (.slice dA dl.length dc) dl from D2).ao jb fun k hk=>(MA k hk).1;have DY:=ae<|(b7.drew.mono (S':=xm (KO.F i) mb) fun k h=>h.elim).aE jb fun k hk=>.inl (.inl hk);clear Cg Df D2;clear H3 b7 jb;generalize Fm:(KO.sp.add s b).1=s' at *;generalize KA:(KO.sp.add s b).2.1=v at *;generalize CV:(KO.sp.add s b).2.2=g at *;have IG:=ae Fm;have Mt:=ae KA;have Ms:=ae CV;clear Fm KA CV;have m19:ba W4 cb 19 (.map (some mb)):=uo.ag (lY _ _ _ _ _ _);go_upto_if 55 with fail
 go_cut [] (fun wx=>Bv W4 mb rb D g v wx)
 case first=>
  cases g with
  |false=>
   have CJ:v=0:=xE.elim (fun h=>h.2.1) fun h=>(by cases h.1)
   have O9:=ae CJ;clear CJ;go_wp2
   go_meet
   case rel=>exact⟨by rw[O9.out];exact B4,Aw,af.ak _ _⟩
  |true=>
   have AJ:v∈KO.sp.all s:=xE.elim (fun h=>(by cases h.1)) fun h=>h.2.1
   have E5:=Iu.out v AJ;obtain⟨⟨l0,v0⟩,B0⟩:=Option.isSome_iff_exists.1 ((uM v).2 AJ);obtain⟨_,_,g0,lp,e0,_⟩:=D0.out v l0 v0 B0;subst e0;have hI:nT v:=⟨ai,ai⟩;have Dy:lM D v=some (cS g0 l0.length lp):=by unfold lM;rw[B0];rfl
   have xa:=eT (P:=Tryz.prog) Aw sv Tryz.underlying3 (z:=ey) bJ hI;rw[Dy]at xa;have xa:(Instr.lookup 104 (.map (some mb)) (ah v) false).run Tryz.prog W4= .ok (cS g0 l0.length lp) W4:=xa;have HI:=ae hI;have Ij:=ae (show kx D true v=cS g0 l0.length lp by unfold kx;rw[if_pos rfl,B0];rfl);clear AJ E5 B0 hI Dy;go_upto_region 14 with(refine pT #[ah v,cS g0 l0.length lp] B4 (by simp[Value.oneCell']) ?_);have eD:af (fun k=>k=mb∨k=rb) W4 (W4.setRow rb #[ah v,cS g0 l0.length lp]):=(af.ak _ _).aK (.inl (.inr rfl)) _;have yY:=B4.aK #[ah v,cS g0 l0.length lp];have Af:bZ (W4.setRow rb #[ah v,cS g0 l0.length lp]) mb (lM D):=Aw.ao (((af.ak (aM rb) W4).aK (.inl (show aM rb rb from rfl)) _)) fun e=>HD.2.2.2.1 (show mb=rb from e).symm
   have KN:=(((af.ak (aM rb) W4).aK (.inl (show aM rb rb from rfl)) #[ah v,cS g0 l0.length lp])).az uo fun e=>HD.2.2.1 (show cb=rb from e).symm
   have kh:=ae eD;have B3:=ae yY;have uk:=ae Af;have PS:ba (W4.setRow rb #[ah v,cS g0 l0.length lp]) cb 19 (.map (some mb)):=KN.ag (lY _ _ _ _ _ _);clear eD yY Af KN m19 xa;generalize W4.setRow rb #[ah v,cS g0 l0.length lp]=W5 at *;obtain⟨u5,W6,sx,Ko,nQ⟩:=jw (P:=Tryz.prog) uk sv Tryz.underlying3 HI 0;have Cb:=ae Ko;have lO:=ae nQ;clear Ko nQ;go_wp2
   go_meet
   case rel=>
    refine⟨?_,?_,kh.aE lO fun k hk=>.inl (.inl hk)⟩
    ·rw[Ij.out];exact lO.az B3 fun e=>HD.2.2.2.1 (show rb=mb from e)
    ·rw[if_pos rfl,←rH];exact Cb
 case rest=>
  obtain⟨yY,Af,eD⟩:=hcut;obtain⟨W5,e5⟩:∃W5,W5=wc:=⟨_,rfl⟩;subst e5;have Fv:=H.cm;have B3:=ae yY;have uk:=ae Af;have kh:=ae eD;have Ga:=ae<|eD.az uo fun e=>e.elim Fv fun e=>HD.2.2.1 e.symm;have xk:=ae<|eD.az F3 fun e=>e.elim HD.2.1 HD.2.2.2.2.1;have hdr:∀k,aJ (.slice dA dl.length dc) k→¬(k=mb∨k=rb):=fun k hk e=>e.elim (MA k hk).2 fun e=>by have:=PD.out k hk;have:=iw.2;omega
  have JE:=aH (b8 W5.drew (.slice dA dl.length dc) dl) (D1.ao eD.drew hdr);clear yY Af eD Fv hdr uo Aw F3 B4 D1 m19;have k1:ba W5.drew cb 19 (.map (some mb)):=Ga.ag (lY _ _ _ _ _ _);have k2:aF W5.drew fb 0 b:=xk.ag rfl;have k3:ba W5.drew fb 1 (.slice dA dl.length dc):=xk.ag rfl;have HI:=aH (nT b) (⟨by have:=Ds.out;omega,by have:=Ds.out;omega⟩);go_upto_region 15 with fail;refine JP (fun w':World=>ba w' cb 19 (.map (some mb))∧aF w' fb 0 b∧ba w' fb 1 (.slice dA dl.length dc)) 9 fun aX=>?_
  refine eZ [0,1,2,3,4,5,6,7] ?_;refine lh 8 fun K hK=>?_
  go_simp;refine(cI _ dl W5.drew JE).mono ?_;rintro e W6 ⟨vv,rfl,zv,nQ,zy⟩;have L0:=ae zv;have lO:=ae nQ;have Mh:=ae zy;have k1:=nQ.cell aX.1 id;have k2:=nQ.cell aX.2.1 id;have k3:=nQ.cell aX.2.2 id;clear zv nQ zy;refine JQ hK fun aX=>?_
  clear hK;refine jz ?_;clear aX k1 k2 k3;have xC:=ae<|(af.ak aA W5).drew.trans lO;have Cb:=ae<|uk.keep xC;refine nv W6 rfl _ _ _ rfl sv Tryz.underlying3 mb (lM (if g=true then aD D v none else D)) b vv rfl rfl rfl Cb HI ?_;intro W7 BR pW;have Mi:=ae BR;have zk:=ae pW;have Ik:=ae<|pW.az (xC.az B3 id) fun e=>HD.2.2.2.1 (show rb=mb from e);have O8:=ae (show(kx D g v).oneCell'=true by
   cases g with
   |false=>rfl
   |true=>
    unfold kx;rw[if_pos rfl]
    cases B0:D v with
    |none=>rfl
    |some p=>
     obtain⟨l0,v0⟩:=p;obtain⟨_,_,g0,lp,e0,_⟩:=D0.out v l0 v0 B0;subst e0;rfl)
  clear BR pW Cb HI;generalize J1:kx D g v=vd at *;have Ij:=ae J1;clear J1;go_wp2_with (first|(refine pL #[ah v,vd] Ik Tryz.underlying87 ?_)|(refine pT #[ah v,vd] Ik (by have:=O8.out;simp[Value.oneCell']at this ⊢;exact this) ?_));have DC:af (aM rb) W7 (W7.setRow rb #[ah v,vd]):=(af.ak (aM rb) W7).aK (.inl (show aM rb rb from rfl)) _;have Nx:=Ik.aK #[ah v,vd];generalize W7.setRow rb #[ah v,vd]=W8 at *;refine bodyPost_ret (dm rfl _ _ rb _ #[ah v,vd] (0,0) _ rfl Nx Tryz.underlying87 rfl bJ) rfl ?_;have AD:af (fun k=>k=mb∨k=rb) W6 W8:=(zk.mono (S':=fun k=>k=mb∨k=rb) fun k hk=>.inl (.inl hk)).aE DC fun k hk=>.inl (.inr hk)
  have DD:af (fun k=>k=mb∨k=rb) W4 W8:=(kh.iJ xC).trans AD;have uv:af (xm (KO.F i) mb) w W8:=DY.aE DD fun k hk=>hk.elim (fun e=>.inl (.inr e)) fun e=>.inr (by have:=iw.2;omega)
  have Qu:=kh.size;have J8:=xC.size;have Qt:=AD.size;have ud:=uk.lt;have si:=Ga.lt;have kf:=B3.lt;have P3:W5.drew.heap.size=W5.heap.size:=rfl;have qa:mQ W8 cb mb (KO.F i) (c.f 3) dl vv:=by
   have NQ:=Mh.out;have DL:b8 W6 vv dl:=L0.nR (by have:=H.right.p3;have:=HL.out;omega);have J6:=L0.out;rcases J6 with⟨_,e⟩|⟨g9,DR,AP,rfl,Fy,_⟩
   ·have:=F5.out;have:dl= []:=by simpa [bytes] using e
    rw[this]at F5;exact absurd F5 (Nat.lt_irrefl _)
   ·have h9:=NQ g9 (aq.2 rfl);have Qz:=Fy.lt;rw[show(bytes dl).length=dl.length by simp[bytes]]at DL ⊢;refine⟨HL,uF.ao ⟨DL,fun k hk=>⟨AP,by rw[←aq.1 hk];exact Fy⟩⟩ AD fun k hk e=>?_,g9,DR,rfl,ai,ai,ai,fun e=>?_⟩
    ·have:=aq.1 hk;rcases e with e|e<;>omega
    ·have:=(KO.oc i).lt Aq g9 e;omega
  refine⟨vv,by rw[Mt.out,Ms.out,Ij.out];rfl,?_,fun k hk=>?_,uv⟩
  ·rw[IG.out,Mt.out,Ms.out];refine {az:=uv.az H.az (fun e=>e.elim FY H.cm),ord:=(KO.oc i).ao Aq DD fun k hk e=>?_,map:=?_,keys:=fun y=>?_,kg:=fun y l' v' hy=>?_,nL:=FY.out,mJ:=tW.out,right:=H.right,t1:=H.t1,t3:=H.t3,bI:=?_}
   ·rcases e with rfl|rfl
    ·exact tW hk
    ·exact Me hk
   ·have Fg:=Mi.ao DC fun e=>HD.2.2.2.1 (show mb=rb from e).symm
    rw[xI (if g=true then aD D v none else D) b (dl,vv)]at Fg;exact Fg
   ·unfold Az aD
    by_cases e:y=b
    ·rw[if_pos e];refine⟨fun _=>?_,fun _=>rfl⟩;rcases xE.out with⟨_,_,h9⟩|⟨_,_,_,h9⟩
     ·exact(h9 y).2 (.inl e)
     ·exact(h9 y).2 (.inl e)
    ·rw[if_neg e];rcases xE.out with⟨hg,_,h9⟩|⟨hg,_,_,h9⟩
     ·rw[hg,if_neg (by simp),h9 y,uM.out y];exact⟨.inr,fun h=>h.resolve_left e⟩
     ·rw[hg,if_pos rfl,h9 y]
      by_cases e2:y=v
      ·subst e2;simp[e]
      ·rw[if_neg e2,uM.out y];exact⟨fun h=>.inr ⟨h,e2⟩,fun h=>(h.resolve_left e).1⟩
   ·unfold Az aD at hy
    split at hy
    ·injection hy with hy;injection hy with h8 h9;rw[←h8,←h9];exact qa
    ·cases g with
     |false=>exact(H.kg y l' v' hy).jB uv
     |true=>
      rw[if_pos rfl]at hy
      split at hy
      ·cases hy
      ·exact(H.kg y l' v' hy).jB uv
   ·obtain⟨hA,NN,Fu,e9,h8,h9⟩:=H.bI;exact⟨hA,NN,Fu,e9,h8.jB uv fun h0 k hk e=>by
     have:=h9 h0 k (e9▸hk);exact e.elim this.1 this.2.2,h9⟩
  ·have:=Mh.out k hk;have:=DY.size;omega
end
section
variable {K:aZ}{i:K.ι}{w w':World}{cb mb:Nat}{c:aN}{hv:Value}{aw:Nat}{s s':K.σ}{D:Int→Option gA}
theorem aQ.p6 (h:aQ K i w cb mb c hv aw s D)(hR:K.R i s' w')(ho:af (K.F i) w w')(hk:∀y,y∈K.sp.all s'↔y∈K.sp.all s):aQ K i w' cb mb c hv aw s' D where
 az:=ho.az h.az h.nL
 ord:=hR
 map:=h.map.ao ho h.mJ
 keys:=fun b=>(h.keys b).trans (hk b).symm
 kg:=fun b l v hb=>(h.kg b l v hb).jB (ho.mono fun k hk=>.inl (.inl hk))
 nL:=h.nL
 mJ:=h.mJ
 right:=h.right
 t1:=h.t1
 t3:=h.t3
 bI:=by
  obtain⟨A,n,cp,e,h8,h9⟩:=h.bI;exact⟨A,n,cp,e,h8.jB ho fun h0 k hk=>(h9 h0 k (e▸hk)).1,h9⟩
theorem aQ.off {S:Nat→Prop}(h:aQ K i w cb mb c hv aw s D)(ho:af S w w')(h1:∀k,K.F i k→¬S k)(h2:¬S cb)(h3:¬S mb)(h4:∀b l v,D b=some (l,v)→∀k,aJ v k→¬S k)(h5:0<c.h.length→∀k,aJ hv k→¬S k):aQ K i w' cb mb c hv aw s D where
 az:=ho.az h.az h2
 ord:=(K.oc i).ao h.ord ho h1
 map:=h.map.ao ho h3
 keys:=h.keys
 kg:=fun b l v hb=>by
  have h9:=h4 b l v hb;obtain⟨a1,a2,g,ca,rfl,a3,a4⟩:=h.kg b l v hb;exact⟨a1,a2.ao ho h9,g,ca,rfl,Nat.lt_of_lt_of_le a3 ho.size,a4⟩
 nL:=h.nL
 mJ:=h.mJ
 right:=h.right
 t1:=h.t1
 t3:=h.t3
 bI:=by
  obtain⟨A,n,cp,e,h8,h9⟩:=h.bI;exact⟨A,n,cp,e,h8.jB ho fun h0 k hk=>h5 h0 k (e▸hk),h9⟩
theorem aQ.Nf (h:aQ K i w cb mb c hv aw s D){b:Int}{l:List Int}{v:Value}(hb:D b=some (l,v)):∀k,aJ v k→k<w.heap.size:=fun k hk=>by
 obtain⟨_,_,g,ca,rfl,a3,_⟩:=h.kg b l v hb;rw[←aq.1 hk];exact a3
theorem aQ.Nc (h:aQ K i w cb mb c hv aw s D)(h0:0<c.h.length):∀k,aJ hv k→k<w.heap.size:=fun k hk=>by
 obtain⟨A,n,cp,rfl,h8,_⟩:=h.bI;obtain⟨g,o,rfl,hg,_⟩:=h8.at_ 0 h0;rw[←aq.1 hk];exact hg
theorem aQ.se (h:aQ K i w cb mb c hv aw s D){b:Int}{p:gA}(hb:D b=some p):b∈K.sp.all s:=(h.keys b).1 (by rw[hb];rfl)
theorem aQ.Dv (h:aQ K i w cb mb c hv aw s D){b:Int}(hb:D b=none):b∉K.sp.all s:=fun e=>by
 have:=(h.keys b).2 e;rw[hb]at this
 cases this
def Jo (K:aZ)(i:K.ι)(cb mb:Nat)(c:aN)(hv:Value)(aw:Nat)(s:K.σ)(D:Int→Option gA)(b:Int)(l:List Int)(w:World)(e:Ending)(w':World):Prop:=
 ∃v,e= .returned (.tuple #[v,.bool true])∧Row 5 w' v (bytes l)∧(∀k,aJ v k→w.heap.size≤k)∧aQ K i w' cb mb c hv aw (K.sp.use s b) D∧af (K.F i) w w'
theorem qX {b:Int}(h:aQ K i w cb mb c hv aw s D)(hb:D b=none):
 Calls Tryz.prog 63 #[aI cb,ah b] w fun e w'=>e= .returned (.tuple #[ey,.bool false])∧af aA w w':=by
 have HH:=ib b h;rw[decide_eq_false (h.Dv hb)]at HH;have HH:=ae HH;clear h hb
 go_enter Tryz.func63,Tryz.ntmps63
 go_wp2_with (go_at_call 97;refine HH.mono ?_;rintro e w1 ⟨rfl,h1⟩);go_ret2;exact⟨rfl,h1⟩
theorem BI {b:Int}{l:List Int}{dv:Value}(h:aQ K i w cb mb c hv aw s D)(hb:D b=some (l,dv))(qb:K.sp.sk s<jH):
 Calls Tryz.prog 63 #[aI cb,ah b] w (Jo K i cb mb c hv aw s D b l w):=by
 have cK:=h.se hb;have HH:=ib b h;rw[decide_eq_true cK]at HH;have HH:=ae HH;have w7:=(K.oc i).gr h.ord cK;have HI:=aH (nT b) (⟨ai,ai⟩);have HU:=ae fun w' (hC:aQ K i w' cb mb c hv aw s D)=>(K.oc i).use hC.ord cK qb
 have HL:=ae<|(K.oc i).xn h.ord cK;have hm:=(K.oc i).uz.m;have he:=(K.oc i).uz.e;have H:=ae h;have HV:=ae (show lM D b=some dv by unfold lM;rw[hb];rfl);have HD:=ae hb;have HR:=ae h.right;clear h hb cK w7 qb
 go_enter Tryz.func63,Tryz.ntmps63
 go_upto_region 3 with(go_at_call 97;refine HH.mono ?_;rintro e W1 ⟨rfl,a8⟩);have H1:=ae<|H.keep a8;have bw:=ae a8;have x1:ba W1 cb 18 (.iface K.t (K.x i)):=H1.az.ag (lX _ _ _ _ _ _);clear a8;go_upto_region 4 with(refine(HU W1 H1).mono ?_;rintro e W2 ⟨rfl,rj,bd⟩);have H2:=ae<|H1.p6 rj bd HL;have bR:=ae bd;clear x1 rj bd hm he;have x2:ba W2 cb 19 (.map (some mb)):=H2.az.ag (lY _ _ _ _ _ _);have xa:=eT (P:=Tryz.prog) H2.map sv Tryz.underlying3 (z:=ey) bJ HI;rw[HV.out,Option.getD_some]at xa;have eE:=(H2.kg b l dv HD).nR;have F8:=ae eE;clear eE;go_wp2_with (go_at_call 60;refine(cI _ l W2 F8).mono ?_;rintro e W3 ⟨v,rfl,dr,bQ,qa⟩);go_ret2;have CL:=bw.size;have pO:=bR.size;exact⟨v,rfl,dr,fun k hk=>by have:=qa k hk;omega,H2.keep bQ,((bw.mono fun _ hk=>hk.elim).trans bR).iJ bQ⟩
end
theorem yH (c:aN)(A:Option Addr)(n m:Nat):(aj c (.slice A n m)).all (·.oneCell')=true:=by simp[aj,Value.oneCell']
def lc:aN:=⟨fun i=>[1,1,4,1,2,0,1,1,1,1,1,1,1,1,0,1].getD i 0,[]⟩
theorem lU:dJ lc where
 p0:=av
 p1:=av
 p2:=av
 p3:=av
 p4:=av
 p5:=av
 pp:=av
 pl:=av
 pc:=av
 CA:=av
 Cz:=av
 Cy:=av
 GF:=av
 ph:=.inr rfl
 hs:=⟨fun i hi=>absurd hi (Nat.not_lt_zero _),fun i j _ hj=>absurd hj (Nat.not_lt_zero _),av⟩
theorem rW (k:Nat)(hk:k<3):(lB 1).Made lc (k+1):=by
 rcases(show k=0∨k=1∨k=2 by omega)with rfl|rfl|rfl
 ·exact gS (c:=lc) (k:=0) lU av av av
 ·exact gS (c:=lc) (k:=1) lU av av av
 ·exact gS (c:=lc) (k:=2) lU av av av
def PR:Array Value:=#[ah 0,ah 0,ah 0,ah 0,ah 0,ah 0,ah 0,ah 0,ah 0,ah 0,ah 0,ah 0,ah 0,ah 0,ah 0,ah 0,ey]
theorem ya {w:World}{g:Nat}{x:Int}(h:Box w g 5 #[.int .u8 x]):b8 w (cS g 1 1) [x]:=⟨_,1,rfl,dT _,by simp,fun j u hj=>⟨g,0,rfl,by
 rw[Nat.zero_add];exact h.ag (by simpa using hj)⟩⟩
section
end
section
theorem Gg:(lB 1).Made lc 1:=gS (c:=lc) (k:=0) lU av av av
theorem JH {i:(lB 1).ι}{W:World}{cb mb:Nat}{hv:Value}{s:List Int}{D:Int→Option gA}(h:aQ (lB 1) i W cb mb lc hv 1 s D)(b x:Int)(h0:0≤b)(h1:b<4):
 Calls Tryz.prog 101 #[aI cb,.agg #[ah b,cS W.heap.size 1 1],ah 0] (W.alloc (.cells #[.int .u8 x] 5)) (nu (lB 1) i cb mb lc hv 1 s D b [x] (W.alloc (.cells #[.int .u8 x] 5))):=by
 refine r7 (h.keep ((af.ak aA W).alloc _)) (ya (Box.fresh W 5 #[.int .u8 x])) (fun k hk=>?_) h0 h1 rfl 0 (fun w' hc=>?_) trivial (show 0<jH by decide)
 ·have:=aq.1 hk;have h2:=((lB 1).oc i).lt h.ord;have h3:=h.map.lt;exact⟨fun e=>by have:=h2 k e;omega,ai⟩
 ·refine(my b 0 hc av).mono fun e dS ⟨h2,h3⟩=>⟨?_,h3▸af.ak _ _⟩
  rw[h2];have:mR lc 1 b 0=true:=by
   unfold mR;rw[decide_eq_true h0,decide_eq_true (show b<lc.f 2 from h1)];rfl
  rw[this]
end
theorem iP {P:Program}{fn:Func}{p u:Tmp}{ty:TypeId}(h:fn.results=#[.cell p ty,.tmp u])(tmps:Array Value)(w:World)(g:Nat)(t:TypeId)(cs:Array Value)(fr:Nat×Nat)(d:TypeDesc)
 (hp:tmps.getD p undef=aI g) (hg:w.heap[g]? =some (.cells cs t fr))
 (hu:P.underlying ty=some d) (hd:(match d with| .struct _| .array _ _=>true|_=>false)=true) (hi:(P.info? ty).map (·.size)=some cs.size):
 (results fn tmps).run P w= .ok (.tuple #[.agg cs,tmps.getD u undef]) w:=by
 have iE:tmps[p]?.getD undef=aI g:=by simpa using hp
 simp[results,h,iE,asAddr,run_loadVar_row w g t ty cs fr d hg hu hd hi]
def zF:Array Value:=#[ah 0,ey]
section
theorem rS (b:Int)(w:World):Calls Tryz.prog 97 #[.pointer none,ah b] w fun e w'=>e= .returned (.bool false)∧w=w':=by
 go_enter Tryz.func97,Tryz.ntmps97
 go_wp2_with fail;go_ret;exact⟨rfl,rfl⟩
theorem tf (b:Int)(w:World):Calls Tryz.prog 121 #[.pointer none,ah b] w fun e w'=>e= .returned (.bool false)∧w=w':=by
 go_enter Tryz.func121,Tryz.ntmps121
 go_wp2_with fail;go_ret;exact⟨rfl,rfl⟩
theorem Ct (b l:Int)(w:World):Calls Tryz.prog 98 #[.pointer none,ah b,ah l] w fun e w'=>e= .returned (.bool false)∧w=w':=by
 go_enter Tryz.func98,Tryz.ntmps98
 go_wp2_with (go_at_call 121;refine(tf b _).mono ?_;rintro e W1 ⟨rfl,rfl⟩);go_ret;exact⟨rfl,rfl⟩
theorem Gm (w:World):Calls Tryz.prog 37 #[.pointer none] w fun e w'=>e= .returned ey∧w=w':=by
 go_enter Tryz.func37,Tryz.ntmps37
 go_wp2_with fail;go_ret;exact⟨rfl,rfl⟩
theorem Gk (b:Int)(w:World):Calls Tryz.prog 63 #[.pointer none,ah b] w fun e w'=>e= .returned (.tuple #[ey,.bool false])∧w=w':=by
 go_enter Tryz.func63,Tryz.ntmps63
 go_wp2_with (go_at_call 97;refine(rS b _).mono ?_;rintro e W1 ⟨rfl,rfl⟩);go_ret2;exact⟨rfl,rfl⟩
theorem bD{P:Prop}(h:P:=by simp[zF,Value.oneCell']):P:=h
theorem EH (b:Int)(w:World):Calls Tryz.prog 67 #[.pointer none,ah b] w fun e w'=>e= .returned (.tuple #[.agg zF,.bool false])∧af aA w w':=by
 have HB:=ae<|Box.fresh w 87 zF;have HO:=ae<|(af.ak aA w).alloc (.cells zF 87)
 go_enter Tryz.func67,Tryz.ntmps67
 go_upto_region 1 with fail;change Code.wp _ _ _ _ (w.alloc (.cells zF 87));generalize w.alloc (.cells zF 87)=W1 at *;go_wp2_with (first|(go_at_call 97;refine(rS b _).mono ?_;rintro e W2 ⟨rfl,rfl⟩)|(refine pT zF HB bD ?_))
 (try simp only[Exit.inBlock,Exit.then])
 refine bodyPost_ret (iP rfl _ _ w.heap.size _ zF (0,0) _ rfl (HB.aK _) Tryz.underlying87 rfl bJ) rfl ?_;exact⟨rfl,HO.aK (.inr (dT _)) _⟩
theorem Gl (b l:Int)(A:Option Addr)(n c:Nat)(w:World):Calls Tryz.prog 101 #[.pointer none,.agg #[ah b,.slice A n c],ah l] w fun e w'=>e= .returned (.tuple #[.agg zF,.bool false,ah 7])∧af aA w w':=by
 have hb:=Box.fresh (w.alloc (.cells #[ah b,.slice A n c] 87)) 87 zF;rw[World.size_alloc]at hb;have HB:=ae hb;have HO:=ae<|((af.ak aA w).alloc (.cells #[ah b,.slice A n c] 87)).alloc (.cells zF 87);clear hb
 go_enter Tryz.func101,Tryz.ntmps101
 go_upto_region 1 with fail;change Code.wp _ _ _ _ ((w.alloc (.cells #[ah b,.slice A n c] 87)).alloc (.cells zF 87));generalize(w.alloc (.cells #[ah b,.slice A n c] 87)).alloc (.cells zF 87)=W1 at *;go_wp2_with (refine pT zF HB bD ?_)
 (try simp only[Exit.inBlock,Exit.then])
 refine bodyPost_ret (dm rfl _ _ (w.heap.size+1) _ zF (0,0) _ rfl (HB.aK _) Tryz.underlying87 rfl bJ) rfl ?_;exact⟨rfl,HO.aK (.inr (Nat.le_succ _)) _⟩
end
section
variable {K:aZ}{i:K.ι}{w w':World}{cb mb:Nat}{c:aN}{hv:Value}{aw:Nat}{s s':K.σ}{D:Int→Option gA}
theorem aQ.less (h:aQ K i w cb mb c hv aw s D){b:Int}(hb:b∈K.sp.all s){w1:World}(hR:K.R i (K.sp.rem s b) w1)(a8:af (K.F i) w w1)(hm:bZ w' mb (lM (aD D b none)))(bd:af (aM mb) w1 w'):
 aQ K i w' cb mb c hv aw (K.sp.rem s b) (aD D b none):=by
 have ho:af (xm (K.F i) mb) w w':=(a8.mono fun k hk=>.inl (.inl hk)).aE bd fun k hk=>.inl (.inr hk)
 exact {
  az:=ho.az h.az fun e=>e.elim h.nL h.cm
  ord:=(K.oc i).ao hR bd fun k hk e=>h.mJ (by rw[←show k=mb from e];exact hk)
  map:=hm
  keys:=fun y=>by
   unfold aD;rw[(K.oc i).su h.ord hb y]
   by_cases e:y=b
   ·rw[if_pos e];simp[e]
   ·rw[if_neg e,h.keys y];simp[e]
  kg:=fun y l v hy=>by
   unfold aD at hy
   split at hy
   ·cases hy
   ·exact(h.kg y l v hy).jB ho
  nL:=h.nL
  mJ:=h.mJ
  right:=h.right
  t1:=h.t1
  t3:=h.t3
  bI:=by
   obtain⟨A,n,cp,e,h8,h9⟩:=h.bI;exact⟨A,n,cp,e,h8.jB ho fun h0 k hk e2=>by
    have:=h9 h0 k (e▸hk);exact e2.elim this.1 this.2.2,h9⟩}
def Ev (K:aZ)(i:K.ι)(cb mb:Nat)(c:aN)(hv:Value)(aw:Nat)(s:K.σ)(D:Int→Option gA)(b:Int)(l:List Int)(dv:Value)(w:World)(e:Ending)(w':World):Prop:=
 e= .returned (.tuple #[.agg #[ah b,dv],.bool true])∧aQ K i w' cb mb c hv aw (K.sp.rem s b) (aD D b none)∧mQ w' cb mb (K.F i) (c.f 3) l dv∧af (xm (K.F i) mb) w w'
theorem zT {b:Int}(h:aQ K i w cb mb c hv aw s D)(hb:D b=none):
 Calls Tryz.prog 67 #[aI cb,ah b] w fun e w'=>e= .returned (.tuple #[.agg zF,.bool false])∧af aA w w':=by
 have HB:=ae<|Box.fresh w 87 zF;have HO:=ae<|(af.ak aA w).alloc (.cells zF 87);have HH:=ib b (h.keep HO);rw[decide_eq_false (h.Dv hb)]at HH;have HH:=ae HH;clear h hb
 go_enter Tryz.func67,Tryz.ntmps67
 go_upto_region 1 with fail;change Code.wp _ _ _ _ (w.alloc (.cells zF 87));generalize w.alloc (.cells zF 87)=W at *;obtain⟨rb,kf⟩:∃rb,rb=w.heap.size:=⟨_,rfl⟩;have um:=aH (w.heap.size≤rb) (Nat.le_of_eq kf.symm);rw[←kf]at HB ⊢;clear kf;go_upto_region 2 with(go_at_call 97;refine HH.mono ?_;rintro e W1 ⟨rfl,a8⟩);have cQ:=ae<|a8.az HB id;have bw:=ae<|HO.trans a8;clear a8;go_wp2_with (refine pT zF cQ bD ?_);refine bodyPost_ret (iP rfl _ _ rb _ zF (0,0) _ rfl (cQ.aK _) Tryz.underlying87 rfl bJ) rfl ?_;exact⟨rfl,bw.aK (.inr um) _⟩
theorem zU {b:Int}{l:List Int}{dv:Value}(h:aQ K i w cb mb c hv aw s D)(hb:D b=some (l,dv)):
 Calls Tryz.prog 67 #[aI cb,ah b] w (Ev K i cb mb c hv aw s D b l dv w):=by
 have cK:=h.se hb;have AY:=ae cK;have HB:=ae<|Box.fresh w 87 zF;have HO:=ae<|(af.ak aA w).alloc (.cells zF 87);have H:=ae<|h.keep HO;have HH:=ib b H;rw[decide_eq_true cK]at HH;have HH:=ae HH;have w7:=(K.oc i).gr h.ord cK;have HI:=aH (nT b) (⟨ai,ai⟩);have HU:=ae fun w' (hC:aQ K i w' cb mb c hv aw s D)=>(K.oc i).rem hC.ord cK
 have hm:=(K.oc i).uA.m;have he:=(K.oc i).uA.e;have HV:=ae (show lM D b=some dv by unfold lM;rw[hb];rfl);have HD:=ae hb;have cT:=ae<|(K.oc i).lt h.ord;have zo:=ae h.az.lt;have Px:=ae fun y l' v' (hy:D y=some (l',v'))=>h.Nf hy
 have Pv:=ae h.Nc;have xh:=ae h.map.lt;obtain⟨_,_,g0,lp,e0,CW,_⟩:=h.kg b l dv hb;have PC:=ae CW;have Q9:=ae e0;clear h hb cK w7 CW
 go_enter Tryz.func67,Tryz.ntmps67
 go_upto_region 1 with fail;change Code.wp _ _ _ _ (w.alloc (.cells zF 87));generalize w.alloc (.cells zF 87)=W at *;obtain⟨rb,kf⟩:∃rb,rb=w.heap.size:=⟨_,rfl⟩;have um:=aH (w.heap.size≤rb) (Nat.le_of_eq kf.symm);rw[←kf]at HB ⊢;clear kf;subst e0;go_upto_region 3 with(go_at_call 97;refine HH.mono ?_;rintro e W1 ⟨rfl,a8⟩);have H1:=ae<|H.keep a8;have cQ:=ae<|a8.az HB id;have bw:=ae<|HO.trans a8;clear a8 HB HO H HH;have x1:ba W1 cb 19 (.map (some mb)):=H1.az.ag (lY _ _ _ _ _ _);have xa:=eT (P:=Tryz.prog) H1.map sv Tryz.underlying3 (z:=ey) bJ HI;rw[HV.out,Option.getD_some]at xa;go_upto_region 4 with(refine pT #[ah b,cS g0 l.length lp] (Box.fresh W1 87 zF) (by simp[Value.oneCell']) ?_);have bd:af aA W1 ((W1.alloc (.cells zF 87)).setRow W1.heap.size #[ah b,cS g0 l.length lp]):=((af.ak aA W1).alloc _).aK (.inr (dT _)) _;have Ak:=(Box.fresh W1 87 zF).aK #[ah b,cS g0 l.length lp];have sq:=ae Ak;have H2:=ae<|H1.keep bd;have eC:=ae<|bd.az cQ id;have bR:=ae<|bw.trans bd;clear bd Ak x1 xa cQ;change Code.wp _ _ _ _ ((W1.alloc (.cells zF 87)).setRow W1.heap.size #[ah b,cS g0 l.length lp]);generalize(W1.alloc (.cells zF 87)).setRow W1.heap.size #[ah b,cS g0 l.length lp]=W2 at *;obtain⟨fb,jd⟩:∃fb,fb=W1.heap.size:=⟨_,rfl⟩;have Mj:=ae (show w.heap.size≤fb by rw[jd];exact bw.size);rw[←jd]at sq ⊢;clear jd;have x2:ba W2 cb 18 (.iface K.t (K.x i)):=H2.az.ag (lX _ _ _ _ _ _);go_upto_region 5 with(refine(HU W2 H2).mono ?_;rintro e W3 ⟨rfl,uc,bQ⟩);have B6:=ae uc;have b7:=ae bQ;have DE:¬K.F i rb:=fun e=>by have:=cT.out _ e;have:=um.out;omega
 have DH:¬K.F i fb:=fun e=>by have:=cT.out _ e;have:=Mj.out;omega
 have kj:=ae<|bQ.az eC DE;have Cg:=ae<|bQ.az sq DH;have lu:=ae<|H2.map.ao bQ H2.mJ;have x3:ba W3 cb 19 (.map (some mb)):=bQ.cell (H2.az.ag (lY _ _ _ _ _ _)) H2.nL;clear uc bQ x2 hm he DE DH eC sq;obtain⟨u5,W4,sx,Ag,gB⟩:=jw (P:=Tryz.prog) lu sv Tryz.underlying3 HI 0;rw[rH]at Ag;have jb:=ae gB;have IJ:=ae<|H2.less AY B6 b7 Ag gB;have uo:=ae (gB.az kj fun e=>by have h1:rb=mb:=e;have:=xh.out;have:=um.out;omega);have F3:=ae (gB.az Cg fun e=>by have h1:fb=mb:=e;have:=xh.out;have:=Mj.out;omega);have PF:=ae<|(H2.kg b _ _ HD).jB ((b7.mono (S':=xm (K.F i) mb) fun k hk=>.inl (.inl hk)).aE gB fun k hk=>.inl (.inr hk));clear Ag gB lu kj Cg;go_upto_region 6 with fail;clear sx x3;go_wp2_with (first|(refine pL #[ah b,cS g0 l.length lp] F3 Tryz.underlying87 ?_)|(refine pT #[ah b,cS g0 l.length lp] uo (by simp[Value.oneCell']) ?_));refine bodyPost_ret (iP rfl _ _ rb _ #[ah b,cS g0 l.length lp] (0,0) _ rfl (uo.aK _) Tryz.underlying87 rfl bJ) rfl ?_;have eD:af (aM rb) W4 (W4.setRow rb #[ah b,cS g0 l.length lp]):=(af.ak (aM rb) W4).aK (.inl (show aM rb rb from rfl)) _;have how:af (xm (K.F i) mb) w (W4.setRow rb #[ah b,cS g0 l.length lp]):=
  (((bR.mono (S':=xm (K.F i) mb) fun k hk=>hk.elim).aE b7 fun k hk=>.inl (.inl hk)).aE jb fun k hk=>.inl (.inr hk)).aE eD fun k hk=>.inr (by
   rw[show k=rb from hk];exact um)
 have hn:∀k,k<w.heap.size→¬aM rb k:=fun k hk e=>by rw[show k=rb from e]at hk;have:=um.out;omega
 refine⟨rfl,IJ.off eD (fun k hk=>hn k (cT k hk)) (hn cb zo) (hn mb xh) (fun y l' v' hy k hk=>hn k (Px y l' v' (by unfold aD at hy;split at hy;cases hy;exact hy) k hk)) fun h0 k hk=>hn k (Pv h0 k hk),?_,how⟩;obtain⟨a1,a2,g,ca,e,a3,a4⟩:=PF.out;injection e with e;injection e with e;injection e with e;subst e;exact⟨a1,a2.ao eD fun k hk=>hn k (by rw[←aq.1 hk];exact PC),g0,_,rfl,Nat.lt_of_lt_of_le a3 eD.size,a4⟩
end
section
variable {K:aZ}{i:K.ι}{w w':World}{cb mb:Nat}{c:aN}{hv:Value}{aw:Nat}{s s':K.σ}{D:Int→Option gA}
theorem aQ.other (h:aQ K i w cb mb c hv aw s D){b:Int}{p q:gA}(hb:D b=some p)(hm:bZ w' mb (lM (aD D b (some q))))(ho:af (aM mb) w w')(hd:mQ w' cb mb (K.F i) (c.f 3) q.1 q.2):
 aQ K i w' cb mb c hv aw s (aD D b (some q)) where
 az:=ho.az h.az h.cm
 ord:=(K.oc i).ao h.ord ho fun k hk e=>h.mJ (by rw[←show k=mb from e];exact hk)
 map:=hm
 keys:=fun y=>by
  unfold aD
  by_cases e:y=b
  ·rw[if_pos e,e,←h.keys b,hb];simp
  ·rw[if_neg e];exact h.keys y
 kg:=fun y l v hy=>by
  unfold aD at hy
  split at hy
  ·injection hy with hy;rw[hy]at hd;exact hd
  ·exact(h.kg y l v hy).jB (ho.mono fun k hk=>.inl (.inr hk))
 nL:=h.nL
 mJ:=h.mJ
 right:=h.right
 t1:=h.t1
 t3:=h.t3
 bI:=by
  obtain⟨A,n,cp,e,h8,h9⟩:=h.bI;exact⟨A,n,cp,e,h8.jB ho fun h0 k hk=>(h9 h0 k (e▸hk)).2.2,h9⟩
def P7 (K:aZ)(i:K.ι)(cb mb:Nat)(c:aN)(hv:Value)(aw:Nat)(s:K.σ)(D:Int→Option gA)(b:Int)(dl:List Int)(w:World)(e:Ending)(w':World):Prop:=
 ∃vv,e= .returned (.bool true)∧aQ K i w' cb mb c hv aw s (aD D b (some (dl,vv)))∧(∀k,aJ vv k→w.heap.size≤k)∧af (aM mb) w w'
end
end
section
open Go.ChangeShapes Go.MapKept Go.Maps Go.RowKit Go.WideShapes
theorem Gu (c:aN)(hv:Value)(aw:Nat)(t:TypeId)(x:Value)(mb:Nat){j:Nat}{v:Value}(hj:(aj c hv).toList[j]? =some v):(bO c hv aw t x mb)[j]? =some v:=by
 have aO:=(List.getElem?_eq_some_iff.1 hj).1;unfold bO;rw[Array.getElem?_append_left (by simpa using aO),←Array.getElem?_toList];exact hj
theorem ET (c:aN)(hv:Value)(aw:Nat)(t t':TypeId)(x x':Value)(mb:Nat):(bO c hv aw t x mb).setIfInBounds 18 (.iface t' x')=bO c hv aw t' x' mb:=by rfl
section
variable {KO:aZ}{i:KO.ι}{w:World}{cb mb:Nat}{c:aN}{hv:Value}{aw:Nat}{s:KO.σ}{D:Int→Option gA}
def JK (KO:aZ)(cb mb:Nat)(c:aN)(hv:Value)(aw:Nat)(w:World)(e:Ending)(w':World):Prop:=
 ∃i',e= .returned (.tuple #[])∧aQ KO i' w' cb mb c hv aw KO.s0 (fun _=>none)∧(∀k,KO.F i' k→w.heap.size≤k)∧af (fun k=>k=mb∨k=cb) w w'
end
end
section
open Go.ChangeShapes Go.RowKit Go.WideShapes
def kB (K:aZ)(i:K.ι)(cb mb:Nat)(c:aN)(hv:Value)(D:Int→Option gA)(k:Nat):Prop:=K.F i k∨k=cb∨k=mb∨(∃b l v,D b=some (l,v)∧aJ v k)∨(0<c.h.length∧aJ hv k)
theorem aQ.Jl {K:aZ}{i:K.ι}{w w':World}{cb mb:Nat}{c:aN}{hv:Value}{aw:Nat}{s:K.σ}{D:Int→Option gA}{S:Nat→Prop}(h:aQ K i w cb mb c hv aw s D)(ho:af S w w')(hS:∀k,kB K i cb mb c hv D k→¬S k):aQ K i w' cb mb c hv aw s D:=
 {az:=ho.az h.az (hS _ (.inr (.inl rfl))),ord:=(K.oc i).ao h.ord ho fun k hk=>hS k (.inl hk),map:=h.map.ao ho (hS _ (.inr (.inr (.inl rfl)))),keys:=h.keys,nL:=h.nL,mJ:=h.mJ,right:=h.right,t1:=h.t1,t3:=h.t3,kg:=fun b l v hb=>by
   obtain⟨h1,h2,g,ca,rfl,h3,h4⟩:=h.kg b l v hb;exact⟨h1,h2.ao ho fun k hk=>hS k (.inr (.inr (.inr (.inl ⟨b,l,_,hb,hk⟩)))),g,ca,rfl,Nat.lt_of_lt_of_le h3 ho.size,h4⟩,bI:=by
   obtain⟨A,n,cp,h1,h2,h3⟩:=h.bI;exact⟨A,n,cp,h1,h2.jB ho fun h0 k hk=>hS k (.inr (.inr (.inr (.inr ⟨h0,h1▸hk⟩)))),h3⟩}
theorem aL.lt {w:World}{A:Option Addr}{n c:Nat}{l:List au}(h:aL w A n c l)(h0:0<l.length){k:Nat}(hk:aJ (.slice A n c) k):k<w.heap.size:=by
 obtain⟨g,o,e,hg,_⟩:=h.at_ 0 h0;subst e;rw[←aq.1 hk];exact hg
theorem aQ.Em {K:aZ}{i:K.ι}{w:World}{cb mb:Nat}{c:aN}{hv:Value}{aw:Nat}{s:K.σ}{D:Int→Option gA}(h:aQ K i w cb mb c hv aw s D){k:Nat}(hk:kB K i cb mb c hv D k):k<w.heap.size:=by
 rcases hk with hk|rfl|rfl|⟨b,l,v,hb,hk⟩|⟨h0,hk⟩
 ·exact(K.oc i).lt h.ord k hk
 ·exact h.az.lt
 ·exact h.map.lt
 ·obtain⟨_,_,g,ca,rfl,h3,_⟩:=h.kg b l v hb;rw[←aq.1 hk];exact h3
 ·obtain⟨A,n,cp,h1,h2,_⟩:=h.bI;exact h2.lt h0 (h1▸hk)
structure uE where
 op:Int
 blk:Int
 wB:Int
 wr:Bool
 kg:Value
def AO (s:uE):Nat→Value
 |0=>.int .i64 s.op
 |1=>.int .i64 s.blk
 |2=>.int .i64 s.wB
 |3=>.bool s.wr
 |_=>s.kg
def JL:uE:=⟨0,0,0,false,ey⟩
def BK (n:Nat)(S:Nat→uE):Array Value:=Array.ofFn (n:=n*5) fun i=>AO (S (i.1 / 5)) (i.1 % 5)
theorem EF (n:Nat)(S:Nat→uE):(BK n S).size=n*5:=by simp[BK]
theorem JJ (n:Nat)(S:Nat→uE){b j:Nat}(hb:b<n)(hj:j<5):(BK n S)[b*5+j]? =some (AO (S b) j):=by
 have h1:b*5+j<n*5:=ai;have h2:(b*5+j) / 5=b:=ai;have h3:(b*5+j) % 5=j:=ai;simp[BK,h1,h2,h3]
theorem MN (m:Nat):Builtin.zeroCells #[ah 0,ah 0,ah 0,.bool false,ey] m=BK m (fun _=>JL):=by
 unfold Builtin.zeroCells BK;refine Array.ext (by simp) fun i h1 h2=>?_
 simp only[Array.getElem_ofFn];have h5:i % 5<5:=Nat.mod_lt _ av;simp only[Array.getElem_map,Array.getElem_range]
 show(#[Value.int .i64 0,ah 0,ah 0,.bool false,ey]:Array Value)[i % 5]! =AO JL (i % 5)
 generalize i % 5=j at *;rcases(show j=0∨j=1∨j=2∨j=3∨j=4 by omega)with rfl|rfl|rfl|rfl|rfl<;>rfl
def gX (c:aN)(hv:Value)(cb:Nat)(u:Value)(sl:Value)(ops:Int)(up:Bool)(en:Value):Array Value:=aj c hv ++ #[aI cb,u,sl,ah ops,.bool up,en]
theorem MT (c:aN)(hv:Value)(cb:Nat)(u:Value)(sl:Value)(ops:Int)(up:Bool)(en:Value){i:Nat}(hi:i<16):(gX c hv cb u sl ops up en)[i]? =some (ah (c.f i)):=by
 unfold gX;exact dx
theorem ES (c:aN)(hv:Value)(cb:Nat)(u v:Value)(sl:Value)(ops:Int)(up:Bool)(en:Value):(gX c hv cb u sl ops up en).setIfInBounds 18 v=gX c hv cb v sl ops up en:=by
 unfold gX aj;rfl
section
end
section
theorem BH {K:aZ}{i:K.ι}{w:World}{cb mb:Nat}{c:aN}{hv:Value}{aw:Nat}{s:K.σ}{D:Int→Option gA}(b:Int)(h:aQ K i w cb mb c hv aw s D)(hb:b∉K.sp.all s):
 Calls Tryz.prog 63 #[aI cb,ah b] w fun e w'=>e= .returned (.tuple #[ey,.bool false])∧af aA w w':=by
 have HC:=ib b h;rw[decide_eq_false hb]at HC;have HC:=ae HC;clear h hb
 go_enter Tryz.func63,Tryz.ntmps63
 go_wp2_with (go_at_call 97;refine HC.mono ?_;rintro e w1 ⟨rfl,h1⟩);go_ret2;exact⟨rfl,h1⟩
end
section
variable {K:aZ}{i:K.ι}{w:World}{cb mb:Nat}{c:aN}{hv:Value}{aw:Nat}{s:K.σ}{D:Int→Option gA}
end
end
end Go.Proofs.YtpcfhbeakecihaaGreat

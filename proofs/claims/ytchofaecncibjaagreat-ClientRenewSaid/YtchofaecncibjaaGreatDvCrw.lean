/- client.Renew. -/
import Derived.Test.YtchofaecncibjaaGreatM35
import Derived.Test.YtchofaecncibjaaGreatM43
import Derived.Test.YtchofaecncibjaaGreatM40
import Derived.Test.YtchofaecncibjaaGreatM3
import Derived.Test.YtchofaecncibjaaGreatM2
import Derived.Test.YtchofaecncibjaaGreatM1
import Derived.Test.YtchofaecncibjaaGreatM4
import Derived.Test.YtchofaecncibjaaGreatM5
set_option linter.all false
set_option maxHeartbeats 20000000
set_option maxRecDepth 100000
namespace Go.Proofs.YtchofaecncibjaaGreat
open Go.RowKit Go.ChangeShapes Go.WideShapes
section
def bsP (s:kY):Bool:=decide (s.op≠0)
theorem rn1_any (s:kY)(A:Option Addr)(n c:Nat)(w:World):
 Calls Tryz.prog 65 #[.agg (sY s A n c)] w fun e w'=>e= .returned (.bool (bsP s))∧ag az w w':=by
 have HB:=ae (Box.fresh w 92 (sY s A n c));have HO:=ae ((ag.aj az w).alloc (.cells (sY s A n c) 92));unfold sY;generalize hr:bsP s=r at *;have HR:=ae hr;clear hr
 go_enter Tryz.func65,Tryz.ntmps65
 go_upto_region 1 with fail;change Code.wp _ _ _ _ (w.alloc (.cells (sY s A n c) 92));generalize w.alloc (.cells (sY s A n c) 92)=W at *;generalize w.heap.size=g at *;have x0:aw W g 0 s.op:=HB.af rfl
 by_cases c1:s.op=0
 ·have Z3:(s.op != 0)=false:=by simpa using c1
  go_wp2;go_ret;exact⟨by rw[show r=false by rw[←HR.out];unfold bsP;simp[c1]];rfl,HO⟩
 ·have Z3:(s.op != 0)=true:=by simpa using c1
  go_wp2;go_ret;exact⟨by rw[show r=true by rw[←HR.out];unfold bsP;simp[c1]];rfl,HO⟩
theorem rn_index {n sb:Nat}{S:Nat→kY}{dv:Nat→Value}{w:World}(h:Box w sb 92 (mC n fun j=>sR (S j) (dv j)))(hn:n≤4)(hd:∀j,j<n→∃A m c,dv j= .slice A m c):
 Calls Tryz.prog 96 #[aU sb n n,.func (.func 65) #[] #[]] w fun e w'=>∃z:Int,e= .returned (ah z)∧decide (0≤z)=((List.range n).any fun i=>bsP (S i))∧ag az w w':=by
 have H:=ae h;have HD:=ae hd;have HC:=ae (fun(s:kY) (A:Option Addr) (m c:Nat) (w':World) (ho:ag az w w')=>rn1_any s A m c w');have hnm:(n:Int)≤4:=by omega
 have HS:=aB (Ig n S bsP w (ah 0) w) (⟨0,Nat.zero_le _,rfl,fun j hj=>absurd hj (by omega),ag.aj _ w⟩);clear h hd
 go_enter Tryz.func96,Tryz.ntmps96
 go_upto_region 2 with fail
 go_loopw [8] (fun i wr=>Ig n S bsP w i wr) (fun i _=>n - (intOf i).toNat)
 case atStart=>exact HS
 case round=>
  clear HS;obtain⟨k,hk,rfl,iQ,ho⟩:=hrel;have HO:=ae ho;have HN:=ae iQ;clear ho iQ
  by_cases aY:k<n
  ·obtain⟨A,m,cc,hdk⟩:=HD.out k aY;obtain⟨x0,x1,x2,x3,x4⟩:=bJ (HO.aq H id) aY hdk;have HK:Hid (∀w',ag az wr w'→Calls Tryz.prog 65 (#[.agg (sY (S k) A m cc)] ++ #[]) w' fun e mR=>e= .returned (.bool (bsP (S k)))∧ag az w' mR):=ae fun w' hw=>HC (S k) A m cc w' (HO.trans hw)
   have iV:(k:Int)<n:=by omega
   have bL:=ae aY;unfold sY at HK;generalize hs:S k=s at *;have HSK:=ae hs;clear hs aY hk hdk
   cases pr:bsP s with
   |true=>
    rw[pr]at HK;have HZ:=aB (((List.range n).any fun i=>bsP (S i))=true) (PX bL (by rw[HSK.out];exact pr));clear pr;go_wp2_with (go_at_call 65;refine(HK _ (ag.aj _ _)).mono ?_;rintro e W1 ⟨rfl,aR⟩);go_ret;exact⟨k,rfl,by rw[HZ.out];exact decide_eq_true (by omega),HO.trans aR⟩
   |false=>
    rw[pr]at HK;have Gy:=aB (∀j,j<k+1→bsP (S j)=false) (fun j hj=>by
     by_cases e:j=k
     ·rw[e,HSK.out];exact pr
     ·exact HN j (by omega))
    clear pr;go_wp2_with (go_at_call 65;refine(HK _ (ag.aj _ _)).mono ?_;rintro e W1 ⟨rfl,aR⟩)
    go_roundw
    case rel=>exact⟨k+1,bL,by go_num,Gy,HO.trans aR⟩
    case measure=>simp[intOf];have:=bL.out;omega
  ·obtain rfl:k=n:=by omega
   clear aY hk;have HZ:=aB (((List.range k).any fun i=>bsP (S i))=false) (Ey HN);go_wp2_with fail;go_ret;exact⟨-1,rfl,by rw[HZ.out];rfl,HO⟩
theorem rn_contains {n sb:Nat}{S:Nat→kY}{dv:Nat→Value}{w:World}(h:Box w sb 92 (mC n fun j=>sR (S j) (dv j)))(hn:n≤4)(hd:∀j,j<n→∃A m c,dv j= .slice A m c):
 Calls Tryz.prog 64 #[aU sb n n,.func (.func 65) #[] #[]] w fun e w'=>e= .returned (.bool ((List.range n).any fun i=>bsP (S i)))∧ag az w w':=by
 have HI:=ae (rn_index h hn hd);generalize((List.range n).any fun i=>bsP (S i))=r at *;clear h hd
 go_enter Tryz.func64,Tryz.ntmps64
 go_wp2_with (go_at_call 96;refine HI.mono ?_;rintro e W1 ⟨z,rfl,hz,aR⟩);go_ret;exact⟨by rw[←hz];rfl,aR⟩
end
def putR (cs:Array Value):Nat→List Value→Array Value
 |_,[]=>cs
 |o,v :: r=>putR (cs.setIfInBounds o v) (o+1) r
theorem Box.setsR {g:Nat}{t:TypeId}:∀(vs:List Value) (o:Nat) (cs:Array Value) (w:World),Box w g t cs→Box (w.setCells g o vs) g t (putR cs o vs)
 | [],_,_,_,h=>h
 |v :: r,o,cs,w,h=>Box.setsR r (o+1) _ _ (h.store o v)
theorem ag.setsR {S:Nat→Prop}{a:World}{g:Nat}(hg:S g∨a.heap.size≤g):∀(vs:List Value) (o:Nat) (w:World),ag S a w→ag S a (w.setCells g o vs)
 | [],_,_,h=>h
 |v :: r,o,w,h=>ag.setsR hg r (o+1) _ (h.setCell (p:=⟨g,o,none⟩) hg v)
theorem cli_lit (c:aM)(hv:Value)(cb:Nat)(u sl:Value)(ops:Int)(up:Bool)(en:Value):br c hv cb u sl ops up en=#[ah (c.f 0),ah (c.f 1),ah (c.f 2),ah (c.f 3),ah (c.f 4),ah (c.f 5),ah (c.f 6),ah (c.f 7),ah (c.f 8),ah (c.f 9),ah (c.f 10),ah (c.f 11),ah (c.f 12),ah (c.f 13),ah (c.f 14),ah (c.f 15),hv,aO cb,u,sl,ah ops,.bool up,en]:=by
 unfold br ak;simp only[List.append_toArray,List.cons_append,List.nil_append]
theorem cli_putC (c t:aM)(hv:Value)(A:Option Addr)(n m cb:Nat)(u sl:Value)(ops:Int)(up:Bool)(en:Value):putR (br c hv cb u sl ops up en) 0 (ak t (.slice A n m)).toList=br t (.slice A n m) cb u sl ops up en:=by
 rw[cli_lit,cli_lit];simp only[ak,putR,List.setIfInBounds_toArray,List.set_cons_zero,List.set_cons_succ]
theorem cfgR_one (t:aM)(A:Option Addr)(n m:Nat):(ak t (.slice A n m)).all (·.oneCell')=true:=by simp[ak,Value.oneCell']
section
variable {Z:ZN}{w w':World}{K K':aZ}{c t:aM}{a:cH K}{M:CM K.σ}
theorem bm.renewed (h:bm Z K c a M w)(hT:K'.Typ)(hq:cN t=cN c){i:K'.ι}{cb mb u g eb n1 n2:Nat}{hv pz:Value}
 (hbox:Box w' a.l 80 (br t pz cb (aO u) (aU a.sb (cN t) (cN t)) (M.ops:Nat) M.up a.en)) (ho:ag (ar a.l) w w')
 (hc:cP K' i w' cb mb t hv 1 K'.s0 (fun _=>none)) (h1:Box w' u 135 (ft g (lP (t.f 9) (t.f 10) (t.f 11) 3) (fun _=>0) (fun _=>0))) (h2:jV w' g eb 1 (fun _=>[]))
 (hh:∃A k cp,pz= .slice A k cp∧aW w' A k cp t.h) (hF:∀k,K'.F i k→w.heap.size≤k∧k<n1) (fL:w.heap.size≤cb∧cb<n1) (fW:w.heap.size≤mb∧mb<n1)
 (F5:0<t.h.length→∀k,aK hv k→w.heap.size≤k∧k<n1) (hhc:0<t.h.length→∀k,aK pz k→n1≤k∧k<n2) (hn:w.heap.size≤n1∧n1≤n2) (hu:n2≤u∧n2≤g∧n2≤eb):
 bm Z K' t ⟨i,a.l,cb,mb,u,g,eb,a.sb,hv,pz,a.en,a.dv,fun _=>none⟩ ⟨K'.s0,fun _=>none,u0,M.S,M.ops,M.up,M.en⟩ w':=by
 have hL:∀k,b6 a k→k<w.heap.size:=fun k hk=>h.kB hk
 have hl:=hL a.l (.inr (.inr (.inr (.inr (.inr (.inr (.inl rfl)))))));have hs:=hL a.sb (.inr (.inr (.inr (.inr (.inr (.inr (.inr (.inl rfl))))))));have he:∀k,aK a.en k→k<w.heap.size:=fun k hk=>hL k (.inr (.inr (.inr (.inr (.inr (.inr (.inr (.inr hk))))))))
 have hW:Wr Z (ar a.l) w:=fun k hk e=>h.wr k hk (by rw[show k=a.l from e];exact .inr (.inr (.inr (.inr (.inr (.inr (.inl rfl)))))))
 have hU:kF w' u g eb (dF t) u0:=by
  refine⟨fun _=>0,fun _=>0,⟨h1,?_,fun e=>?_,fun e=>?_⟩,⟨fun i hi=>rfl,rfl,fun l _ _=>rfl⟩,Sy⟩
  ·have e:(fun i:Nat=>if i=0 then u0.L else([]:List Int))=fun _=>[]:=funext fun i=>by split<;>rfl
   rw[e];exact h2
  ·obtain⟨cs,hb⟩:=h2.boxes.1;rw[←e]at hb;exact absurd (hb.same h1).1 (by decide)
  ·obtain⟨cs,hb⟩:=h2.boxes.2;rw[←e]at hb;exact absurd (hb.same h1).1 (by decide)
 exact {
  aq:=hbox
  slots:=by rw[hq];exact ho.aq h.slots (fun e=>by have e:a.sb=a.l:=e;exact absurd ((e▸h.slots:Box w a.l _ _).same h.aq).1 (by decide))
  fw:=fun j hj=>(h.fw j (hq▸hj)).aA ho hW
  j0:=hc,dd:=fun b=>rfl,dn:=fun b l v hb=>by cases hb
  AV:=hU
  bw:=by
   obtain⟨A,k,cp,e,hh⟩:=hh;refine⟨A,k,cp,e,hh,fun h0 j hj hW=>?_⟩;obtain⟨q1,q2⟩:=hhc h0 j hj;rcases hW with hW|hW|hW|hW|hW|hW|hW|hW|hW
   ·have:=hF j hW;omega
   ·have e:j=cb:=hW;omega
   ·have e:j=mb:=hW;omega
   ·have e:j=u:=hW;omega
   ·have e:j=g:=hW;omega
   ·have e:j=eb:=hW;omega
   ·have e:j=a.l:=hW;omega
   ·have e:j=a.sb:=hW;omega
   ·have:=he j hW;omega
  en:=h.en.aA ho hW fun k hk e=>by
   have e:k=a.l:=e;obtain⟨_,cs,hb⟩:=h.en.aq hk;rw[e]at hb;exact absurd (hb.same h.aq).1 (by decide)
  fs:=fun k hk=>by
   have q:w.heap.size≤k∧k<n1:=by
    rcases hk with hk|⟨h0,hk⟩
    ·exact hF k hk
    ·exact F5 h0 k hk
   exact⟨show k≠a.l by omega,show k≠a.sb by omega,show k≠u by omega,show k≠g by omega,show k≠eb by omega,fun e=>by have:=he k e;omega⟩
  lo:=fun k hk=>by
   have hz:=h.zb;rcases hk with hW|hW|hW|hW|hW|hW|hW|hW|hW
   ·have:=hF k hW;omega
   ·have e:k=cb:=hW;omega
   ·have e:k=mb:=hW;omega
   ·have e:k=u:=hW;omega
   ·have e:k=g:=hW;omega
   ·have e:k=eb:=hW;omega
   ·exact h.lo k (.inr (.inr (.inr (.inr (.inr (.inr (.inl hW)))))))
   ·exact h.lo k (.inr (.inr (.inr (.inr (.inr (.inr (.inr (.inl hW))))))))
   ·exact h.lo k (.inr (.inr (.inr (.inr (.inr (.inr (.inr (.inr hW))))))))
  AX:=fun k hk=>Nat.lt_of_lt_of_le (h.AX k hk) ho.size
  fu:=hT}
theorem cli_renew_slots (h:bm Z K c a M w){A:Option Addr}{m:Nat}(hq:t.f 1≠((cN c:Nat):Int)):
 Calls Tryz.prog 29 #[aO a.l,.agg (ak t (.slice A t.h.length m))] w fun e w'=>e= .returned (.bool false)∧ag az w w':=by
 have HB:=ae (Box.fresh w 25 (ak t (.slice A t.h.length m)));have HO:=ae ((ag.aj az w).alloc (.cells (ak t (.slice A t.h.length m)) 25));have H1:=ae (h.keep HO);have hb:(t.f 1 != ((cN c:Nat):Int))=true:=by simpa using hq
 clear h hq
 go_enter Tryz.func29,Tryz.ntmps29
 go_upto_region 1 with fail;change Code.wp _ _ _ _ (w.alloc (.cells (ak t (.slice A t.h.length m)) 25));generalize w.alloc (.cells (ak t (.slice A t.h.length m)) 25)=W1 at *;generalize Gp:w.heap.size=bb at *;have k0:aw W1.drew bb 1 (t.f 1):=HB.af (aL t _ (i:=1) (by decide));have k1:aE W1.drew a.l 19 (aU a.sb (cN c) (cN c)):=H1.pw;go_upto_region 1 with fail;refine dU (fun w':World=>aw w' bb 1 (t.f 1)∧aE w' a.l 19 (aU a.sb (cN c) (cN c))) 18 fun aH=>?_
 refine yd [0,1,2,3,4,5,6,7,8,9,10,11,12,13,14,15,16] ?_;refine cM 17 fun Kc hK=>?_
 rw[if_neg (by first|(simp[Region.wanted,yielded];done)|(simp[Region.wanted,yielded];intro h;cases h))];refine eh hK fun aH=>?_
 clear hK;refine cG ?_;clear aH k0 k1;go_wp2;go_ret;exact⟨rfl,HO.drew⟩
theorem cli_renew_busy (h:bm Z K c a M w){A:Option Addr}{m:Nat}(hq:t.f 1=((cN c:Nat):Int))(he:((List.range (cN c)).any fun i=>bsP (M.S i))=true):
 Calls Tryz.prog 29 #[aO a.l,.agg (ak t (.slice A t.h.length m))] w fun e w'=>e= .returned (.bool false)∧ag az w w':=by
 have HB:=ae (Box.fresh w 25 (ak t (.slice A t.h.length m)));have HO:=ae ((ag.aj az w).alloc (.cells (ak t (.slice A t.h.length m)) 25));have H1:=ae (h.keep HO);have hb:(t.f 1 != ((cN c:Nat):Int))=false:=by simp[hq]
 have HC:=ae fun(W:World) (ho:ag az (w.alloc (.cells (ak t (.slice A t.h.length m)) 25)) W)=>rn_contains (H1.keep ho).slots h.nn.2.1 h.DD
 have HE:=ae he;clear h hq he
 go_enter Tryz.func29,Tryz.ntmps29
 go_upto_region 1 with fail;change Code.wp _ _ _ _ (w.alloc (.cells (ak t (.slice A t.h.length m)) 25));generalize w.alloc (.cells (ak t (.slice A t.h.length m)) 25)=W1 at *;generalize Gp:w.heap.size=bb at *;have k0:aw W1.drew bb 1 (t.f 1):=HB.af (aL t _ (i:=1) (by decide));have k1:aE W1.drew a.l 19 (aU a.sb (cN c) (cN c)):=H1.pw;go_upto_region 1 with fail;refine dU (fun w':World=>aw w' bb 1 (t.f 1)∧aE w' a.l 19 (aU a.sb (cN c) (cN c))) 18 fun aH=>?_
 refine bX [0,1,2,3,4,5,6,7,8,9,10,11,12,13,14,15,16] ?_;refine cM 17 fun Kc hK=>?_
 go_simp;refine(HC W1.drew ((ag.aj az W1).drew)).mono ?_;rintro e W2 ⟨rfl,bp⟩;rw[HE.out];have bp:ag az W1 W2:=((ag.aj az W1).drew).trans bp;have cO:=ae (bp.aq HB id);have H2:=ae (H1.keep bp);have bf:=ae (HO.trans bp);have k0:aw W2 bb 1 (t.f 1):=cO.af (aL t _ (i:=1) (by decide));have k1:aE W2 a.l 19 (aU a.sb (cN c) (cN c)):=H2.pw;clear bp;refine eh hK fun aH=>?_
 clear hK;refine cG ?_;clear aH k0 k1;go_wp2;go_ret;exact⟨rfl,bf⟩
theorem cli_renew_bad (h:bm Z K c a M w){A:Option Addr}{m:Nat}(bw:aW w A t.h.length m t.h)(hq:t.f 1=((cN c:Nat):Int))(he:((List.range (cN c)).any fun i=>bsP (M.S i))=false)(hP:¬cK t):
 Calls Tryz.prog 29 #[aO a.l,.agg (ak t (.slice A t.h.length m))] w fun e w'=>e= .returned (.bool false)∧ag az w w':=by
 have HN:=ae fun(W:World) (ho:ag az w W)=>L6 hP 1 W (bw.keep ho)
 have HB:=ae (Box.fresh w 25 (ak t (.slice A t.h.length m)));have HO:=ae ((ag.aj az w).alloc (.cells (ak t (.slice A t.h.length m)) 25));have H1:=ae (h.keep HO);have hb:(t.f 1 != ((cN c:Nat):Int))=false:=by simp[hq]
 have HC:=ae fun(W:World) (ho:ag az (w.alloc (.cells (ak t (.slice A t.h.length m)) 25)) W)=>rn_contains (H1.keep ho).slots h.nn.2.1 h.DD
 have HE:=ae he;clear h hq he bw hP
 go_enter Tryz.func29,Tryz.ntmps29
 go_upto_region 1 with fail;change Code.wp _ _ _ _ (w.alloc (.cells (ak t (.slice A t.h.length m)) 25));generalize w.alloc (.cells (ak t (.slice A t.h.length m)) 25)=W1 at *;generalize Gp:w.heap.size=bb at *;have k0:aw W1.drew bb 1 (t.f 1):=HB.af (aL t _ (i:=1) (by decide));have k1:aE W1.drew a.l 19 (aU a.sb (cN c) (cN c)):=H1.pw;go_upto_region 1 with fail;refine dU (fun w':World=>aw w' bb 1 (t.f 1)∧aE w' a.l 19 (aU a.sb (cN c) (cN c))) 18 fun aH=>?_
 refine bX [0,1,2,3,4,5,6,7,8,9,10,11,12,13,14,15,16] ?_;refine cM 17 fun Kc hK=>?_
 go_simp;refine(HC W1.drew ((ag.aj az W1).drew)).mono ?_;rintro e W2 ⟨rfl,bp⟩;rw[HE.out];have bp:ag az W1 W2:=((ag.aj az W1).drew).trans bp;have cO:=ae (bp.aq HB id);have H2:=ae (H1.keep bp);have bf:=ae (HO.trans bp);have k0:aw W2 bb 1 (t.f 1):=cO.af (aL t _ (i:=1) (by decide));have k1:aE W2 a.l 19 (aU a.sb (cN c) (cN c)):=H2.pw;clear bp;refine eh hK fun aH=>?_
 clear hK;refine cG ?_;clear aH k0 k1;have Gy:=HN.out W2 bf;go_wp2_with (first|(refine fH (ak t (.slice A t.h.length m)) cO Tryz.underlying25 ?_)|(go_at_call 31;refine Gy.mono ?_;rintro e W3 ⟨rfl,cB⟩));go_ret;exact⟨rfl,bf.trans cB⟩
def RenP (Z:ZN)(K':aZ)(c t:aM)(a:cH K)(M:CM K.σ)(w:World)(e:Ending)(w':World):Prop:=
 ∃a':cH K',e= .returned (.bool true)∧a'.l=a.l∧bm Z K' t a' ⟨K'.s0,fun _=>none,u0,M.S,M.ops,M.up,M.en⟩ w'∧(∀k,b6 a' k→b6 a k∨w.heap.size≤k)∧ag (b6 a) w w'
theorem cli_renew_yes (h:bm Z K c a M w){A:Option Addr}{m:Nat}(hK:K'.Made t 1)(hT:K'.Typ)(bw:aW w A t.h.length m t.h)(hq:t.f 1=((cN c:Nat):Int))(he:((List.range (cN c)).any fun i=>bsP (M.S i))=false)(hP:cK t):
 Calls Tryz.prog 29 #[aO a.l,.agg (ak t (.slice A t.h.length m))] w (RenP Z K' c t a M w):=by
 have hlen:t.h.length≤100:=by have:=hP.hs.2.2;omega
 have HU:=ae fun W=>Wk (t.f 9) (t.f 10) (t.f 11) (hP.pc 0 (by decide)) (hP.pc 1 (by decide)) (hP.pc 2 (by decide)) W
 have HN:=ae fun(W:World) (ho:ag az w W)=>Nt hK hP (Nat.le_refl 1) (by decide:1≤3) W (bw.keep ho)
 have wM:=ae fun(W:World) (ho:ag az w W)=>Cw W (bw.keep ho) hlen
 have HT:=ae hT;have HQ:=ae (show cN t=cN c by unfold cN at hq ⊢;have:=h.nn.2.2;unfold cN at this;omega);have H0:=ae h;have HB:=ae (Box.fresh w 25 (ak t (.slice A t.h.length m)));have HO:=ae ((ag.aj az w).alloc (.cells (ak t (.slice A t.h.length m)) 25));have H1:=ae (h.keep HO);have hb:(t.f 1 != ((cN c:Nat):Int))=false:=by simp[hq]
 have HC:=ae fun(W:World) (ho:ag az (w.alloc (.cells (ak t (.slice A t.h.length m)) 25)) W)=>rn_contains (H1.keep ho).slots h.nn.2.1 h.DD
 have HE:=ae he;clear h hq he bw hP hK hT hlen
 go_enter Tryz.func29,Tryz.ntmps29
 go_upto_region 1 with fail;change Code.wp _ _ _ _ (w.alloc (.cells (ak t (.slice A t.h.length m)) 25));generalize w.alloc (.cells (ak t (.slice A t.h.length m)) 25)=W1 at *;generalize Gp:w.heap.size=bb at *;have Bl:=ae Gp;clear Gp;have k0:aw W1.drew bb 1 (t.f 1):=HB.af (aL t _ (i:=1) (by decide));have k1:aE W1.drew a.l 19 (aU a.sb (cN c) (cN c)):=H1.pw;go_upto_region 1 with fail;refine dU (fun w':World=>aw w' bb 1 (t.f 1)∧aE w' a.l 19 (aU a.sb (cN c) (cN c))) 18 fun aH=>?_
 refine bX [0,1,2,3,4,5,6,7,8,9,10,11,12,13,14,15,16] ?_;refine cM 17 fun Kc hK=>?_
 go_simp;refine(HC W1.drew ((ag.aj az W1).drew)).mono ?_;rintro e W2 ⟨rfl,bp⟩;rw[HE.out];have bp:ag az W1 W2:=((ag.aj az W1).drew).trans bp;have cO:=ae (bp.aq HB id);have H2:=ae (H1.keep bp);have bf:=ae (HO.trans bp);have k0:aw W2 bb 1 (t.f 1):=cO.af (aL t _ (i:=1) (by decide));have k1:aE W2 a.l 19 (aU a.sb (cN c) (cN c)):=H2.pw;clear bp;refine eh hK fun aH=>?_
 clear hK;refine cG ?_;clear aH k0 k1;have Gy:=HN.out W2 bf;go_upto_region 6 with(first|(refine fH (ak t (.slice A t.h.length m)) cO Tryz.underlying25 ?_)|(go_at_call 31;refine Gy.mono ?_;rintro e W3 ⟨i',cb',mb',Uw,rfl,Yj,hF3,hcb3,hmb3,hhv3,cB⟩));have dM:=ae (cB.aq cO id);have bn:=ae (bf.trans cB);have Q7:=aB ((∀k,K'.F i' k→w.heap.size≤k∧k<W3.heap.size)∧(w.heap.size≤cb'∧cb'<W3.heap.size)∧(w.heap.size≤mb'∧mb'<W3.heap.size)∧(0<t.h.length→∀k,aK Uw k→w.heap.size≤k∧k<W3.heap.size)∧w.heap.size<W3.heap.size∧∀k,vV K' i' cb' mb' t Uw (fun _=>none) k→bb<k) (by
  have hsz:=bf.size;have Bc:=cO.lt;have h1:=Yj.aq.lt;have h2:=Yj.map.lt;have h3:=(K'.oc i').lt Yj.ord;have hbw:=Bl.out;have h4:=cB.size;refine⟨fun k hk=>⟨Nat.le_trans hsz (hF3 k hk),h3 k hk⟩,⟨by omega,h1⟩,⟨by omega,h2⟩,fun h0 k hk=>⟨Nat.le_trans hsz (hhv3 h0 k hk),Yj.ad3 (.inr (.inr (.inr (.inr ⟨h0,hk⟩))))⟩,by omega,fun k hk=>?_⟩;rcases hk with hk|hk|hk|⟨_,_,_,hk,_⟩|hk
  ·have:=hF3 k hk;omega
  ·omega
  ·omega
  ·cases hk
  ·have:=hhv3 hk.1 k hk.2;omega)
 have ME:=ae Yj;clear Yj hF3 hcb3 hmb3 hhv3 cB cO bf H2 Gy;have Rt:aE W3 bb 16 (.slice A t.h.length m):=dM.af (fA t _);have HCL3:=wM.out W3 bn;go_upto_region 7 with(go_at_call 32;refine HCL3.mono ?_;rintro e W4 ⟨B,kJ,rfl,hh4,cI,hown4⟩;have iM:=ae (cI.aq dM id);have Sn:aE W4 bb 16 (.slice A t.h.length m):=cI.cell Rt id;have aaB:=iM.free 16);have hj5:ag (ar bb) W4 (W4.setCell ⟨bb,16,none⟩ (.slice B t.h.length kJ)):=(ag.aj (ar bb) W4).setCell (p:=⟨bb,16,none⟩) (.inl (show ar bb bb from rfl)) _;have HBW:=Bl.out;have bM:=aB (ag az w (W4.setCell ⟨bb,16,none⟩ (.slice B t.h.length kJ))) ((bn.trans cI).setCell (p:=⟨bb,16,none⟩) (.inr (Nat.le_of_eq HBW)) _);have iG:=aB (Box (W4.setCell ⟨bb,16,none⟩ (.slice B t.h.length kJ)) bb 25 (ak t (.slice B t.h.length kJ))) (iM.store 16 (.slice B t.h.length kJ));have MA:=aB (aW (W4.setCell ⟨bb,16,none⟩ (.slice B t.h.length kJ)) B t.h.length kJ t.h) (hh4.mH (S:=ar bb) hj5 fun _ k hk e=>by
  have h1:=hown4 k hk;have h2:=dM.lt;have h3:k=bb:=e;omega)
 have E3:=aB (cP K' i' (W4.setCell ⟨bb,16,none⟩ (.slice B t.h.length kJ)) cb' mb' t Uw 1 K'.s0 (fun _=>none)) ((ME.keep cI).ac5 hj5 (fun k hk e=>by have:=Q7.2.2.2.2.2 k hk;have e:k=bb:=e;omega));have aaZ:=aB (W3.heap.size≤(W4.setCell ⟨bb,16,none⟩ (.slice B t.h.length kJ)).heap.size) (Nat.le_trans cI.size hj5.size);have UM:=aB (0<t.h.length→∀k,aK (.slice B t.h.length kJ) k→W3.heap.size≤k∧k<(W4.setCell ⟨bb,16,none⟩ (.slice B t.h.length kJ)).heap.size) (fun h0 k hk=>⟨hown4 k hk,MA.lt h0 hk⟩);change Code.wp _ _ _ _ (W4.setCell ⟨bb,16,none⟩ (.slice B t.h.length kJ));clear hh4 cI hown4 iM Sn aaB dM bn Rt HCL3 hj5 ME;generalize W4.setCell ⟨bb,16,none⟩ (.slice B t.h.length kJ)=W5 at *;have hl5:=bM.aq H0.aq id;have HL5:=ae hl5;have sT:=aB (W5.there a.l 0 17) (hl5.there (by unfold br ak;simp));clear hl5;have hl6:Box (W5.setCells a.l 0 (ak t (.slice B t.h.length kJ)).toList) a.l 80 (br t (.slice B t.h.length kJ) a.cb (aO a.u) (aU a.sb (cN c) (cN c)) (M.ops:Nat) M.up a.en):=by
  have:=Box.setsR (ak t (.slice B t.h.length kJ)).toList 0 _ _ HL5;rw[cli_putC]at this;exact this
 have j6:ag (ar a.l) W5 (W5.setCells a.l 0 (ak t (.slice B t.h.length kJ)).toList):=ag.setsR (.inl (show ar a.l a.l from rfl)) _ _ _ (ag.aj _ _);have HL6:=ae hl6;have J6:=ae j6;have hx6:aE (W5.setCells a.l 0 (ak t (.slice B t.h.length kJ)).toList) a.l 17 (aO a.cb):=hl6.af rfl;have hf6:=hl6.free 17;clear hl6 j6;go_upto_region 8 with(first|(refine fH (ak t (.slice B t.h.length kJ)) iG Tryz.underlying25 ?_)|(refine wpList_store_mid rfl 25 _ _ rfl a.l 0 (ak t (.slice B t.h.length kJ)) rfl rfl sT (by kernel_rfl) (cfgR_one t B t.h.length kJ) ?_;generalize W5.setCells a.l 0 (ak t (.slice B t.h.length kJ)).toList=W6 at *));change Code.wp _ _ _ _ (W6.setCell ⟨a.l,17,none⟩ (aO cb'));have HL7:=aB (Box (W6.setCell ⟨a.l,17,none⟩ (aO cb')) a.l 80 (br t (.slice B t.h.length kJ) cb' (aO a.u) (aU a.sb (cN c) (cN c)) (M.ops:Nat) M.up a.en)) (by
  have:=HL6.store 17 (aO cb');rw[Uf]at this;exact this)
 have HJ7:=aB (ag (ar a.l) W5 (W6.setCell ⟨a.l,17,none⟩ (aO cb'))) (J6.out.setCell (p:=⟨a.l,17,none⟩) (.inl (show ar a.l a.l from rfl)) _);clear hx6 hf6 HL6 J6 HL5 sT;generalize W6.setCell ⟨a.l,17,none⟩ (aO cb')=W7 at *;have hla:a.l<w.heap.size:=H0.kB (.inr (.inr (.inr (.inr (.inr (.inr (.inl rfl)))))));have hHB:bb≠a.l:=by omega
 have sV:=ae (HJ7.aq iG hHB);have x9:aw W7 bb 9 (t.f 9):=sV.af (aL t _ (i:=9) (by decide));have vx:aw W7 bb 10 (t.f 10):=sV.af (aL t _ (i:=10) (by decide));have x11:aw W7 bb 11 (t.f 11):=sV.af (aL t _ (i:=11) (by decide));have HU7:=ae (HU W7);clear HBW hHB hla sV;go_upto_region 9 with(go_at_call 33;refine HU7.mono ?_;rintro e W8 ⟨u,g,eb,rfl,hu8,hs8,hu,hg,he,hgu,heu,eT⟩;have hx:aE W8 a.l 18 (aO a.u):=(eT.aq HL7 id).af rfl;have hxf:W8.frozen? ⟨a.l,18,none⟩=false:=(eT.aq HL7 id).free _);go_wp2_with fail;go_ret;have j9:ag (ar a.l) W8 (W8.setCell ⟨a.l,18,none⟩ (aO u)):=(ag.aj (ar a.l) W8).setCell (p:=⟨a.l,18,none⟩) (.inl (show ar a.l a.l from rfl)) _;have hl9:=(eT.aq HL7 id).store 18 (aO u);rw[Ue]at hl9;have hla:a.l<w.heap.size:=H0.kB (.inr (.inr (.inr (.inr (.inr (.inr (.inl rfl)))))));have e1:=HJ7.size;have e2:=aaZ.out;have e3:=bM.size;have J9:ag (ar a.l) W5 (W8.setCell ⟨a.l,18,none⟩ (aO u)):=(HJ7.aC eT fun _ h=>h.elim).aC j9 fun k hk=>.inl hk
 have hO9:ag (ar a.l) w (W8.setCell ⟨a.l,18,none⟩ (aO u)):=(bM.mono (S':=ar a.l) fun k hk=>hk.elim).aC J9 fun k hk=>.inl hk
 obtain⟨p1,p2,p3,p4,p5,p6⟩:=Q7.out;refine⟨⟨i',a.l,cb',mb',u,g,eb,a.sb,Uw,.slice B t.h.length kJ,a.en,a.dv,fun _=>none⟩,rfl,rfl,H0.renewed HT HQ (n1:=W3.heap.size) (n2:=W5.heap.size) (by rw[HQ.out];exact hl9) hO9
  (E3.ac5 J9 fun k hk e=>by
   have e:k=a.l:=e;rcases hk with hk|hk|hk|⟨_,_,_,hk,_⟩|hk
   ·have:=p1 k hk;omega
   ·omega
   ·omega
   ·cases hk
   ·have:=p4 hk.1 k hk.2;omega)
  (j9.aq hu8 (show¬u=a.l by omega)) (hs8.aA j9 (show¬g=a.l by omega) (show¬eb=a.l by omega)) ⟨B,t.h.length,kJ,rfl,MA.mH J9 fun h0 k hk e=>by have e:k=a.l:=e;have:=(UM h0 k hk).1;omega⟩
  p1 p2 p3 p4 UM ⟨Nat.le_of_lt p5,e2⟩ ⟨by omega,by omega,by omega⟩,fun k hk=>?_,(show ag (b6 a) w _ from hO9.mono fun k hk=>.inl (show b6 a k from by rw[show k=a.l from hk];exact .inr (.inr (.inr (.inr (.inr (.inr (.inl rfl))))))))⟩
 rcases hk with hW|hW|hW|hW|hW|hW|hW|hW|hW
 ·exact .inr (p1 k hW).1
 ·have e:k=cb':=hW;exact .inr (by omega)
 ·have e:k=mb':=hW;exact .inr (by omega)
 ·have e:k=u:=hW;exact .inr (by omega)
 ·have e:k=g:=hW;exact .inr (by omega)
 ·have e:k=eb:=hW;exact .inr (by omega)
 ·exact .inl (.inr (.inr (.inr (.inr (.inr (.inr (.inl hW)))))))
 ·exact .inl (.inr (.inr (.inr (.inr (.inr (.inr (.inr (.inl hW))))))))
 ·exact .inl (.inr (.inr (.inr (.inr (.inr (.inr (.inr (.inr hW))))))))
end
end Go.Proofs.YtchofaecncibjaaGreat

/- Lemmas. -/
import Derived.Test.YtpcfhbeakecihaaGreatM3
import Derived.Test.YtpcfhbeakecihaaGreatM38
set_option linter.all false
set_option maxHeartbeats 20000000
set_option maxRecDepth 100000
namespace Go.Proofs.YtpcfhbeakecihaaGreat
open Go.ChangeShapes Go.RowKit Go.WideShapes
def ft (b:List Int)(p:Nat)(ok:Bool):Nat×Nat×Bool:=if ok=true then((ed b p 0).1,(ed b p 0).2.1,(ed b p 0).2.2==0)else(0,p,false)
def kM (size:Nat)(b:List Int)(p:Nat)(ok:Bool):List Int×Bool:=
 if ok=true then match fT size b p with| .ok (t,j)=>(t,((t.length:Int)==(size:Int))&&((j:Int)==(b.length:Int)))| .error _=>([],false)else([],false)
def lq (w:World)(r base:Nat)(b:List Int)(p:Nat)(ok:Bool):Prop:=
 ∃A cp,Box w r 165 #[.slice A b.length cp,.int .i64 (p:Nat),.bool ok]∧cH w (.slice A b.length cp) b∧(∀k,aJ (.slice A b.length cp) k→base≤k∧k≠r∧k<w.heap.size)∧base≤r
theorem lq.ar {w w':World}{r base:Nat}{b:List Int}{p:Nat}{ok:Bool}{S:Nat→Prop}(h:lq w r base b p ok)(ho:af S w w')(hS:∀k,base≤k→k<w.heap.size→¬S k):lq w' r base b p ok:=by
 obtain⟨A,cp,h1,h2,h3,h4⟩:=h;exact⟨A,cp,ho.ak h1 (hS r h4 h1.lt),h2.ar ho fun k hk=>hS k (h3 k hk).1 (h3 k hk).2.2,fun k hk=>⟨(h3 k hk).1,(h3 k hk).2.1,Nat.lt_of_lt_of_le (h3 k hk).2.2 ho.size⟩,h4⟩
def eK (sh:Nat→Int)(db:Nat):Array Value:=#[.int .i64 (sh 0),.int .i64 (sh 1),.int .i64 (sh 2),.int .i64 (sh 3),.pointer (some ⟨db,0,none⟩)]
section
theorem sO {w:World}{db lb:Nat}{V:Nat→Value}{d:bC}{sb:Nat}{sh:Nat→Int}{at_:Nat}(hi:at_<64)(hs:Box w sb 108 (eK sh db))(h:eD w db lb V d):
 Calls Tryz.prog 85 #[.pointer (some ⟨sb,0,none⟩),.int .i64 at_] w fun e w'=>∃r,e= .returned (.pointer (some ⟨r,0,none⟩))∧lq w' r w.heap.size (d.sec at_) 0 true∧af au w w':=by
 have x4:aM w sb 4 (.pointer (some ⟨db,0,none⟩)):=hs.ag rfl;have HR:=ae<|LH hi h;have HSM:=ae<|h.small at_ hi;clear hs h;generalize d.sec at_=b at *
 go_enter Tryz.func85,Tryz.ntmps85
 go_upto_region 2 with(go_at_call 115;refine HR.mono ?_;rintro e W1 ⟨v,rfl,hr,ho,hk⟩;obtain⟨A,cp,hv,hcp,hmx⟩:=hr.shape;rw[b7]at hv hcp;subst hv;have JG:=ae hr;have HO:=ae ho;have HK:=ae hk;clear hr ho hk hcp hmx);go_wp2_with fail;go_ret;have al:=(af.ai au W1).alloc (.cells #[.slice A b.length cp,.int .i64 0,.bool true] 165);have iq:=JG.sa (by have:=HSM.out;omega);exact⟨W1.heap.size,rfl,⟨A,cp,Box.fresh W1 _ _,iq.ar al fun _ _=>id,fun k hk=>⟨HK k hk,by have:=JG.lt hk;omega,by have:=JG.lt hk;have:=al.size;omega⟩,HO.size⟩,HO.trans al⟩
theorem sP {w:World}{r base:Nat}{b:List Int}{p:Nat}{ok:Bool}(h:lq w r base b p ok)(hp:ok=true→p≤b.length)(hb:jX b):
 Calls Tryz.prog 87 #[.pointer (some ⟨r,0,none⟩)] w fun e w'=>e= .returned (.int .i64 ((ft b p ok).1:Nat))∧lq w' r base b (ft b p ok).2.1 (ft b p ok).2.2∧af (az r) w w':=by
 obtain⟨A,cp,h1,h2,h3,h4⟩:=h;have H1:=ae h1;have H2:=ae h2;have H3:=ae h3;have H4:=ae h4
 cases ok with
 |true=>
  have HG:=ae<|fun n=>rP A b.length cp b p (w.drewN n) (h2.ar ((af.ai au w).drewN n) fun _ _=>id) (hp rfl) (vP hb p);rw[My]at HG;have HN:=aq (ft b p true=((ed b p 0).1,(ed b p 0).2.1,(ed b p 0).2.2==0)) (rfl);rw[HN.out];clear HN;have x0:aM w r 0 (.slice A b.length cp):=h1.ag rfl;have x1:aF w r 1 (p:Nat):=h1.ag rfl;have x2:aM w r 2 (.bool true):=h1.ag rfl;have g1:w.frozen? ⟨r,1,none⟩=false:=h1.free 1;have g2:w.frozen? ⟨r,2,none⟩=false:=h1.free 2;clear h1 h2 h3 h4 hp hb;generalize(ed b p 0).1=n1 at *;generalize(ed b p 0).2.1=p1 at *;generalize(ed b p 0).2.2=e1 at *
  go_enter Tryz.func87,Tryz.ntmps87
  go_wp2_with fail
  go_quiet ((go_at_call 116;exact gl (HG _)))
  go_wp2;go_ret;have j:af (az r) w (((w.drewN nq).setCell ⟨r,1,none⟩ (.int .i64 (p1:Nat))).setCell ⟨r,2,none⟩ (.bool (e1==0))):=(((af.ai (az r) w).drewN nq).setCell (p:=⟨r,1,none⟩) (.inl rfl) _).setCell (p:=⟨r,2,none⟩) (.inl rfl) _;exact⟨rfl,⟨A,cp,((H1.drewN nq).store 1 _).store 2 _,H2.ar j fun k hk e=>(H3 k hk).2.1 e,fun k hk=>⟨(H3 k hk).1,(H3 k hk).2.1,Nat.lt_of_lt_of_le (H3 k hk).2.2 j.size⟩,H4⟩,j⟩
 |false=>
  have x2:aM w r 2 (.bool false):=h1.ag rfl;have HN:=aq (ft b p false=(0,p,false)) (rfl);rw[HN.out];clear HN h1 h2 h3 h4 hp hb
  go_enter Tryz.func87,Tryz.ntmps87
  go_wp2_with fail;go_ret;exact⟨rfl,⟨A,cp,H1,H2,H3,H4⟩,af.ai _ _⟩
def zB (w:World)(r base:Nat)(t:List Int)(b:List Int)(p:Nat)(ok:Bool)(e:Ending)(w':World):Prop:=
 ∃v,e= .returned v∧Row 5 w' v (bytes t)∧(∃p',lq w' r base b p' ok)∧af (az r) w w'∧∀k,aJ v k→w.heap.size≤k
theorem He {w:World}{r base:Nat}{b:List Int}{p:Nat}(size:Int)(h:lq w r base b p false):
 Calls Tryz.prog 88 #[.pointer (some ⟨r,0,none⟩),.int .i64 size] w (zB w r base [] b p false):=by
 have HH:=ae h;obtain⟨A,cp,h1,h2,h3,h4⟩:=h;have x2:aM w r 2 (.bool false):=h1.ag rfl;clear h1 h2 h3 h4
 go_enter Tryz.func88,Tryz.ntmps88
 go_wp2_with fail;go_ret;exact⟨_,rfl,Row.lJ _ _,⟨p,HH⟩,af.ai _ _,fun k hk=>(bo hk).elim⟩
theorem Hg {w:World}{r base:Nat}{b:List Int}{p:Nat}(size:Nat){x:Int}(h:lq w r base b p true)(hp:p≤b.length)(hb:jX b)(ht:fT size b p= .error x):
 Calls Tryz.prog 88 #[.pointer (some ⟨r,0,none⟩),.int .i64 size] w (zB w r base [] b p false):=by
 obtain⟨A,cp,h1,h2,h3,h4⟩:=h;have HX:=ae<|Lz ht;have x0:aM w r 0 (.slice A b.length cp):=h1.ag rfl;have x1:aF w r 1 (p:Nat):=h1.ag rfl;have x2:aM w r 2 (.bool true):=h1.ag rfl;have HT:=ae<|CR A b.length cp b p size x w.drew (h2.ar (af.ai au w).drew fun _ _=>id) hp (vP hb p) ht;have H1:=ae h1;have H2:=ae h2;have H3:=ae h3;have H4:=ae h4;clear h1 h2 h3 h4 hp hb ht;have i0:aM w.drew r 0 (.slice A b.length cp):=x0;have i1:aF w.drew r 1 (p:Nat):=x1
 go_enter Tryz.func88,Tryz.ntmps88
 go_upto_region 3 with fail;refine gg (fun w':World=>aM w' r 0 (.slice A b.length cp)∧aF w' r 1 (p:Nat)) 16 ?_ ?_
 ·exact⟨i0,i1⟩
 intro aC;refine bE [0,1,2,3,4,5,6,7,8] ?_;refine cX 9 fun K hK=>?_
 go_simp;refine HT.mono ?_;rintro e W2 ⟨rfl,rfl⟩;refine dy hK ?_ fun aC=>?_
 ·exact⟨i0,i1⟩
 clear hK;refine bE [10,11,12,13,14,15] ?_;refine dE ?_;have g2:w.drew.frozen? ⟨r,2,none⟩=false:=H1.free 2;have Ny:(x==0)=false:=by simpa using HX.out
 have y2:aM w.drew r 2 (.bool true):=x2;clear aC i0 i1 x0 x1 x2;go_wp2_with fail;go_ret;have j:af (az r) w (w.drew.setCell ⟨r,2,none⟩ (.bool false)):=((af.ai (az r) w).drew).setCell (p:=⟨r,2,none⟩) (.inl rfl) _;exact⟨_,rfl,Row.lJ _ _,⟨p,A,cp,H1.drew.store 2 _,H2.ar j fun k hk e=>(H3 k hk).2.1 e,fun k hk=>⟨(H3 k hk).1,(H3 k hk).2.1,Nat.lt_of_lt_of_le (H3 k hk).2.2 j.size⟩,H4⟩,j,fun k hk=>(bo hk).elim⟩
theorem nh{P:Prop}(h:P:=by
 exact⟨_,rfl,JG.ar (j3 _) fun k hk e=>by have h1:k=r:=e;have:=HK2.out k hk;have h2:=H1.lt;have h3:w.drew.heap.size=w.heap.size:=rfl;omega,⟨p,A,cp,H1'.store 2 _,H2.ar j fun k hk e=>(H3 k hk).2.1 e,fun k hk=>⟨(H3 k hk).1,(H3 k hk).2.1,Nat.lt_of_lt_of_le (H3 k hk).2.2 j.size⟩,H4⟩,j,fun k hk=>HK2 k hk⟩):P:=h
theorem jG{P:Prop}(h:P:=by
 go_wp2_with fail;go_ret;have j3:∀v,af (az r) W2 (W2.setCell ⟨r,2,none⟩ v):=fun v=>(af.ai (az r) W2).setCell (p:=⟨r,2,none⟩) (.inl rfl) _
 have j:=Q2.trans (j3 (.bool false));exact nh):P:=h
theorem LC {w:World}{r base:Nat}{b:List Int}{p:Nat}(size:Nat){t:List Int}{q:Nat}(h:lq w r base b p true)(hp:p≤b.length)(hb:jX b)(ht:fT size b p= .ok (t,q)):
 Calls Tryz.prog 88 #[.pointer (some ⟨r,0,none⟩),.int .i64 size] w (zB w r base t b p (((t.length:Int)==(size:Int))&&((q:Int)==(b.length:Int)))):=by
 obtain⟨A,cp,h1,h2,h3,h4⟩:=h;have x0:aM w r 0 (.slice A b.length cp):=h1.ag rfl;have x1:aF w r 1 (p:Nat):=h1.ag rfl;have x2:aM w r 2 (.bool true):=h1.ag rfl;have HT:=ae<|EF A b.length cp b p size t q w.drew (h2.ar (af.ai au w).drew fun _ _=>id) hp (vP hb p) ht;have H1:=ae h1;have H2:=ae h2;have H3:=ae h3;have H4:=ae h4;clear h1 h2 h3 h4 hp hb ht;have i0:aM w.drew r 0 (.slice A b.length cp):=x0;have i1:aF w.drew r 1 (p:Nat):=x1;generalize uE:((t.length:Int)==(size:Int))=c1 at *;generalize qZ:((q:Int)==(b.length:Int))=c2 at *;have C1:=ae uE;have C2:=ae qZ;clear uE qZ
 go_enter Tryz.func88,Tryz.ntmps88
 go_upto_region 3 with fail;refine gg (fun w':World=>aM w' r 0 (.slice A b.length cp)∧aF w' r 1 (p:Nat)) 16 ?_ ?_
 ·first|exact r9|exact⟨i0,i1⟩
 intro aC;refine bE [0,1,2,3,4,5,6,7,8] ?_;refine cX 9 fun K hK=>?_
 go_simp;refine HT.mono ?_;rintro e W2 ⟨v,rfl,kJ,bq,AX⟩;obtain⟨A2,q9,Jt,_,_⟩:=kJ.shape;rw[b7]at Jt;subst Jt;have JG:=ae kJ;have bu:=ae bq;have HK2:=ae AX;have r9:aM W2 r 0 (.slice A b.length cp)∧aF W2 r 1 (p:Nat):=⟨bq.cell i0 id,bq.cell i1 id⟩;clear kJ bq AX;refine dy hK ?_ fun aC=>?_
 ·first|exact r9|exact⟨i0,i1⟩
 clear hK;refine bE [10,11,12,13,14,15] ?_;refine dE ?_;have g2:W2.frozen? ⟨r,2,none⟩=false:=(bu.ak H1.drew id).free 2;have y0:aM W2 r 0 (.slice A b.length cp):=aC.1;have y2:aM W2 r 2 (.bool true):=bu.cell (show aM w.drew r 2 (.bool true)from x2) id;have c1':=C1.out;have c2':=C2.out;have j2:af (az r) w W2:=((af.ai (az r) w).drew).cE bu;have H1':=ae<|bu.ak H1.drew id;have Q2:=ae j2;clear aC i0 i1 x0 x1 x2 r9 j2
 cases c1<;>cases c2
 ·exact jG
 ·exact jG
 ·exact jG
 ·go_wp2_with fail;go_ret;have j3:∀v,af (az r) W2 (W2.setCell ⟨r,2,none⟩ v):=fun v=>(af.ai (az r) W2).setCell (p:=⟨r,2,none⟩) (.inl rfl) _
  have j:=Q2.trans (j3 (.bool true));exact nh
theorem xZ {w:World}{r base:Nat}{b:List Int}{p:Nat}{ok:Bool}(size:Nat)(h:lq w r base b p ok)(hp:ok=true→p≤b.length)(hb:jX b):
 Calls Tryz.prog 88 #[.pointer (some ⟨r,0,none⟩),.int .i64 size] w (zB w r base (kM size b p ok).1 b p (kM size b p ok).2):=by
 cases ok with
 |false=>exact He size h
 |true=>
  unfold kM;rw[if_pos rfl]
  cases ht:fT size b p with
  |ok q=>obtain⟨t,j⟩:=q;exact LC size h (hp rfl) hb ht
  |error x=>exact Hg size h (hp rfl) hb ht
theorem FJ {b:List Int}{p:Nat}{ok:Bool}(hp:ok=true→p≤b.length)(h:(ft b p ok).2.2=true):(ft b p ok).2.1≤b.length:=by
 unfold ft at h ⊢
 cases ok with
 |false=>simp at h
 |true=>
  simp only[if_true]at h ⊢;exact LD (fun _=>hp rfl) (by simpa using h)
end
def eu (sh:Nat→Int):Array Value:=#[.int .i64 (sh 0),.int .i64 (sh 1),.int .i64 (sh 2),.int .i64 (sh 3)]
structure Fc (sh:Nat→Int):Prop where
 b0:1≤sh 0
 b1:sh 0≤32
 s0:1≤sh 1
 s1:sh 1≤16
 c0:1≤sh 2
 c1:sh 2≤4
 l0:1≤sh 3
 l1:sh 3≤4
def bP (wr:Nat→Int)(d:Value):Array Value:=#[.int .i64 (wr 0),.int .i64 (wr 1),.int .i64 (wr 2),.int .i64 (wr 3),.int .i64 (wr 4),d]
def iT (sh wr:Nat→Int):Bool:=decide (0≤wr 0∧wr 0<sh 2∧0≤wr 1∧wr 1<sh 3∧1≤wr 2∧wr 2≤1099511627776∧1≤wr 3∧wr 3≤1099511627776)
theorem Fc.mul {sh:Nat→Int}(h:Fc sh){c:Int}(h0:0≤c)(h1:c<sh 2):0≤sh 3*c∧sh 3*c+sh 3≤sh 2*sh 3∧sh 2*sh 3≤16:=by
 have a1:=h.c0;have a2:=h.c1;have a3:=h.l0;have a4:=h.l1;generalize sh 2=x at *;generalize sh 3=y at *;rcases(show x=1∨x=2∨x=3∨x=4 by omega)with rfl|rfl|rfl|rfl<;>rcases(show c=0∨c=1∨c=2∨c=3 by omega)with rfl|rfl|rfl|rfl<;>omega
section
theorem nr{P:Prop}(h:P:=by
 have x2:aF W b 2 (sh 2):=HB.ag rfl;have x3:aF W b 3 (sh 3):=HB.ag rfl;go_wp2;go_ret;exact⟨rfl,HO⟩):P:=h
theorem yc {sh:Nat→Int}(h:Fc sh)(w:World):Calls Tryz.prog 54 #[.agg (eu sh)] w fun e w'=>e= .returned (.bool true)∧af au w w':=by
 obtain⟨h0,h1,h2,h3,h4,h5,h6,h7⟩:=h;have HB:=ae<|Box.fresh w 74 (eu sh);have HO:=ae<|(af.ai au w).alloc (.cells (eu sh) 74)
 go_enter Tryz.func54,Tryz.ntmps54
 go_upto_region 1 with fail;change Code.wp _ _ _ _ (w.alloc (.cells (eu sh) 74));generalize w.alloc (.cells (eu sh) 74)=W at *;generalize w.heap.size=b at *;have x0:aF W b 0 (sh 0):=HB.ag rfl;have x1:aF W b 1 (sh 1):=HB.ag rfl;exact nr
theorem ug {sh:Nat→Int}(h:Fc sh)(w:World):Calls Tryz.prog 56 #[.agg (eu sh)] w fun e w'=>e= .returned (.int .i64 (1+sh 0+sh 2*sh 3))∧af au w w':=by
 have hm:=h.mul (c:=0) (Int.le_refl _) (by have:=h.c0;omega);have wV:0≤sh 2*sh 3∧sh 2*sh 3≤16:=by have h1:=h.l0;omega
 obtain⟨h0,h1,h2,h3,h4,h5,h6,h7⟩:=h;have w1:IntKind.i64.wrap (1+sh 0)=1+sh 0:=by rw[IntKind.wrap_i64];omega
 have w2:IntKind.i64.wrap (sh 2*sh 3)=sh 2*sh 3:=by rw[IntKind.wrap_i64];omega
 have w3:IntKind.i64.wrap (1+sh 0+sh 2*sh 3)=1+sh 0+sh 2*sh 3:=by rw[IntKind.wrap_i64];omega
 have HB:=ae<|Box.fresh w 74 (eu sh);have HO:=ae<|(af.ai au w).alloc (.cells (eu sh) 74);clear hm wV
 go_enter Tryz.func56,Tryz.ntmps56
 go_upto_region 1 with fail;change Code.wp _ _ _ _ (w.alloc (.cells (eu sh) 74));generalize w.alloc (.cells (eu sh) 74)=W at *;generalize w.heap.size=b at *;have x0:aF W b 0 (sh 0):=HB.ag rfl;exact nr
theorem uh {sh:Nat→Int}{b:Int}(h0:0≤b)(h1:b≤1000)(w:World):Calls Tryz.prog 93 #[.agg (eu sh),.int .i64 b] w fun e w'=>e= .returned (.int .i64 (1+b))∧af au w w':=by
 have HO:=ae<|(af.ai au w).alloc (.cells (eu sh) 74)
 go_enter Tryz.func93,Tryz.ntmps93
 go_upto_region 1 with fail;change Code.wp _ _ _ _ (w.alloc (.cells (eu sh) 74));generalize w.alloc (.cells (eu sh) 74)=W at *;go_wp2;go_ret;exact⟨rfl,HO⟩
theorem rO {sh:Nat→Int}(h:Fc sh){c s:Int}(h0:0≤c)(h1:c<sh 2)(h2:0≤s)(h3:s<sh 3)(w:World):Calls Tryz.prog 94 #[.agg (eu sh),.int .i64 c,.int .i64 s] w fun e w'=>e= .returned (.int .i64 (1+sh 0+sh 3*c+s))∧af au w w':=by
 have hm:=h.mul h0 h1;have b0:=h.b0;have b1:=h.b1;have l1:=h.l1;have w1:IntKind.i64.wrap (1+sh 0)=1+sh 0:=by rw[IntKind.wrap_i64];omega
 have w2:IntKind.i64.wrap (sh 3*c)=sh 3*c:=by rw[IntKind.wrap_i64];omega
 have w3:IntKind.i64.wrap (1+sh 0+sh 3*c)=1+sh 0+sh 3*c:=by rw[IntKind.wrap_i64];omega
 have w4:IntKind.i64.wrap (1+sh 0+sh 3*c+s)=1+sh 0+sh 3*c+s:=by rw[IntKind.wrap_i64];omega
 have HB:=ae<|Box.fresh w 74 (eu sh);have HO:=ae<|(af.ai au w).alloc (.cells (eu sh) 74);clear hm h
 go_enter Tryz.func94,Tryz.ntmps94
 go_upto_region 1 with fail;change Code.wp _ _ _ _ (w.alloc (.cells (eu sh) 74));generalize w.alloc (.cells (eu sh) 74)=W at *;generalize w.heap.size=b at *;have x0:aF W b 0 (sh 0):=HB.ag rfl;have x3:aF W b 3 (sh 3):=HB.ag rfl;go_wp2;go_ret;exact⟨rfl,HO⟩
theorem oR{P:Prop}(h:P:=by
 generalize hw0:wr 0=c0 at *;generalize wr 1=c1 at *;generalize wr 2=c2 at *;generalize wr 3=c3 at *;generalize wr 4=c4 at *;generalize sh 0=s0 at *;generalize sh 1=s1 at *;generalize sh 2=s2 at *;generalize sh 3=s3 at *;clear hw0;go_wp2;go_ret;exact⟨by rw[hF.out];rfl,HO⟩):P:=h
theorem cK{P:Prop}(h:P:=by
 have hF:=aq (iT sh wr=false) (by unfold iT;exact decide_eq_false aj);exact oR):P:=h
theorem Cc {sh wr:Nat→Int}(A:Option Addr)(n c:Nat)(w:World):Calls Tryz.prog 89 #[.agg (eu sh),.agg (bP wr (.slice A n c))] w fun e w'=>e= .returned (.bool (iT sh wr))∧af au w w':=by
 have Be:=ae<|Box.fresh w 74 (eu sh);have al:=(af.ai au w).alloc (.cells (eu sh) 74);have b8:=ae<|Box.fresh (w.alloc (.cells (eu sh) 74)) 110 (bP wr (.slice A n c));have s9:=(af.ai au (w.alloc (.cells (eu sh) 74))).alloc (.cells (bP wr (.slice A n c)) 110);have HO:=ae<|al.trans s9;have dG:=ae<|s9.ak Be id;clear al s9
 go_enter Tryz.func89,Tryz.ntmps89
 go_upto_region 1 with fail;change Code.wp _ _ _ _ ((w.alloc (.cells (eu sh) 74)).alloc (.cells (bP wr (.slice A n c)) 110));clear Be;rw[show(w.alloc (.cells (eu sh) 74)).heap.size=w.heap.size+1 by simp]at b8;generalize(w.alloc (.cells (eu sh) 74)).alloc (.cells (bP wr (.slice A n c)) 110)=W at *;generalize w.heap.size=b at *;have x2:aF W b 2 (sh 2):=dG.ag rfl;have x3:aF W b 3 (sh 3):=dG.ag rfl;have y0:aF W (b+1) 0 (wr 0):=b8.ag rfl;have y1:aF W (b+1) 1 (wr 1):=b8.ag rfl;have y2:aF W (b+1) 2 (wr 2):=b8.ag rfl;have y3:aF W (b+1) 3 (wr 3):=b8.ag rfl;clear b8 dG
 by_cases h0:0≤wr 0
 ·by_cases h1:wr 0<sh 2
  ·by_cases h2:0≤wr 1
   ·by_cases h3:wr 1<sh 3
    ·by_cases h4:1≤wr 2
     ·by_cases h5:wr 2≤1099511627776
      ·by_cases h6:1≤wr 3
       ·by_cases h7:wr 3≤1099511627776
        ·have hF:=aq (iT sh wr=true) (by unfold iT;exact decide_eq_true ⟨h0,h1,h2,h3,h4,h5,h6,h7⟩);exact oR
        ·exact cK
       ·exact cK
      ·exact cK
     ·exact cK
    ·exact cK
   ·exact cK
  ·exact cK
 ·exact cK
def KY (n:Nat)(I:Nat→World→Prop)(i:Value)(wr:World):Prop:=∃k:Nat,k≤n∧i= .int .i64 k∧I k wr
theorem vJ (r n cb:Nat)(B:Option Addr)(pg po:Nat→Nat)(I:Nat→World→Prop)(w:World)(hn:n≤6)(h0:I 0 w)
 (hI:∀k wr,k<n→I k wr→(∃g o,B=some ⟨g,o,none⟩∧aM wr g (o+k) (.pointer (some ⟨pg k,po k,none⟩)))∧
  Calls Tryz.prog 87 #[.pointer (some ⟨r,0,none⟩)] wr fun e w'=>∃x:Int,e= .returned (.int .i64 x)∧(∃u,aM w' (pg k) (po k) u)∧w'.frozen? ⟨pg k,po k,none⟩=false∧I (k+1) (w'.setCell ⟨pg k,po k,none⟩ (.int .i64 x))):
 Calls Tryz.prog 86 #[.func (.func 87) #[.pointer (some ⟨r,0,none⟩)] #[],.slice B n cb] w fun e w'=>e= .returned (.tuple #[])∧I n w':=by
 have HI:=ae hI;have HS:=aq (KY n I (.int .i64 0) w) (⟨0,fH _,rfl,h0⟩);clear hI h0
 go_enter Tryz.func86,Tryz.ntmps86
 go_wp2_with fail
 go_loopw [8] (fun i wr=>KY n I i wr) (fun i _=>n - (intOf i).toNat)
 case atStart=>exact HS
 case round=>
  clear HS;obtain⟨k,hk,rfl,hi⟩:=hrel
  by_cases aY:k<n
  ·have jk:(k:Int)<n:=aj;obtain⟨⟨g,o,hB,hc⟩,Rn⟩:=HI.out k wr aY hi;subst hB;have HC:=ae Rn;clear Rn hi;have WY:=ae aY;generalize pg k=pgk at *;generalize po k=pok at *;go_wp2_with fail;refine HC.mono ?_;rintro e w1 ⟨x,rfl,⟨u,hu⟩,hf,qM⟩;have HR:=aq (KY n I (.int .i64 ((k:Int)+1)) (w1.setCell ⟨pgk,pok,none⟩ (.int .i64 x))) (⟨k+1,WY,by simp,qM⟩);clear qM;go_wp2_with fail;exact nc
  ·obtain rfl:k=n:=aj;have HF:=ae hi;clear hi aY hk;go_wp2_with fail
   go_end0
   exact⟨rfl,HF⟩
end
structure bX (w:World)(sb db lb:Nat)(V:Nat→Value)(sh:Nat→Int)(d:bC):Prop where
 ak:Box w sb 108 (eK sh db)
 lH:eD w db lb V d
 off:¬eE db lb V sb
 sd:Fc sh
 f0: -1≤d.cA
 f1:d.cA≤9223372036854775807
 tX:∀i,jX (d.sec i)
theorem bX.ar {S:Nat→Prop}{w w':World}{sb db lb:Nat}{V:Nat→Value}{sh:Nat→Int}{d:bC}(h:bX w sb db lb V sh d)(ho:af S w w')(hS:∀k,k=sb∨eE db lb V k→¬S k):bX w' sb db lb V sh d:=
 {ak:=ho.ak h.ak (hS _ (.inl rfl)),lH:=h.lH.ar ho fun k hk=>hS k (.inr hk),off:=h.off,sd:=h.sd,f0:=h.f0,f1:=h.f1,tX:=h.tX}
theorem bX.keep {w w':World}{sb db lb:Nat}{V:Nat→Value}{sh:Nat→Int}{d:bC}(h:bX w sb db lb V sh d)(ho:af au w w'):bX w' sb db lb V sh d:=h.ar ho fun _ _=>id
theorem bX.lt {w:World}{sb db lb:Nat}{V:Nat→Value}{sh:Nat→Int}{d:bC}(h:bX w sb db lb V sh d){k:Nat}(hk:k=sb∨eE db lb V k):k<w.heap.size:=by
 rcases hk with rfl|hk
 ·exact h.ak.lt
 ·exact h.lH.lt hk
def bD (size:Nat)(b:List Int):Nat×List Int:=
 if(kM size b (ft b 0 true).2.1 (ft b 0 true).2.2).2=true∧(ft b 0 true).1≤1000 then((ft b 0 true).1,(kM size b (ft b 0 true).2.1 (ft b 0 true).2.2).1)else(0,List.replicate size 0)
theorem Ex (w:World)(n:Nat)(hn:n≤1000):Row 5 (w.alloc (.cells (madeCells #[.int .u8 0] n) 5)) (.slice (some ⟨w.heap.size,0,none⟩) n n) (bytes (List.replicate n 0)):=by
 have e:(bytes (List.replicate n 0))=List.replicate n (Value.int .u8 0):=by simp[bytes]
 rw[e];refine .inr ⟨w.heap.size,n,_,by rw[List.length_replicate],Box.fresh w _ _,by rw[List.length_replicate];exact dX _,by rw[size_madeCells];exact dX _,by unfold maxLen;omega,?_⟩;rw[toList_madeCells_one,List.length_replicate];exact List.take_of_length_le (by simp)
def DT (n:Nat)(t:List Int)(w:World)(e:Ending)(w':World):Prop:=∃v,e= .returned (.tuple #[.int .i64 n,v])∧Row 5 w' v (bytes t)∧af au w w'∧∀k,aJ v k→w.heap.size≤k
section
variable {w:World}{sb db lb:Nat}{V:Nat→Value}{sh:Nat→Int}{d:bC}
theorem fj (h:bX w sb db lb V sh d):aF w sb 0 (sh 0)∧aF w sb 1 (sh 1)∧aF w sb 2 (sh 2)∧aF w sb 3 (sh 3)∧aM w sb 4 (.pointer (some ⟨db,0,none⟩)):=
 ⟨h.ak.ag rfl,h.ak.ag rfl,h.ak.ag rfl,h.ak.ag rfl,h.ak.ag rfl⟩
theorem ng{P:Prop}(h:P:=by
 go_upto_region 5 with fail;refine gg (fun w':World=>aF w' sb 1 size) 7 ?_ ?_
 ·first|exact A0|exact y1
 intro aC;refine bE [0,1,2,3,4,6] ?_;refine cX 5 fun K hK=>?_
 have tc:=Sv.out;go_simp;have A0:aF (W4.drew.alloc (.cells (madeCells #[.int .u8 0] size) 5)) sb 1 size:=((af.ai au W4.drew).alloc _).cell (show W4.drew.cell? ⟨sb,1,none⟩=_ from y1) id;clear tc;refine dy hK ?_ fun aC=>?_
 ·first|exact A0|exact y1
 clear hK;refine dE ?_;clear aC A0;go_wp2_with fail;go_ret2;rw[HE'.out];exact HZ _ cr.drew):P:=h
theorem xY {b size:Nat}(hb:(b:Int)<sh 0)(hsz:sh 1=size)(h:bX w sb db lb V sh d):
 Calls Tryz.prog 59 #[.pointer (some ⟨sb,0,none⟩),.int .i64 b] w (DT (bD size (d.sec (1+b))).1 (bD size (d.sec (1+b))).2 w):=by
 obtain⟨x0,x1,x2,x3,x4⟩:=fj h;have HH:=ae h;have UK:=h.sd.b1;have hi:1+b<64:=aj;have HI:=ae hi;have lh:=ae (show size≤16 by have:=h.sd.s1;omega);have HA:=ae<|fun w=>uh (sh:=sh) (b:=b) aj aj w;have yX:=ae<|h.tX (1+b);have Xf:=ae hsz;have hc:((1+b:Nat):Int)=1+(b:Int):=aj;have HC:=ae hc;clear h UK hi hb hsz hc
 go_enter Tryz.func59,Tryz.ntmps59
 go_upto_region 2 with(first|(go_at_call 93;refine(HA _).mono ?_;rintro e W1 ⟨rfl,aK⟩;have bc:=ae aK;have HR:=sO HI (HH.keep aK).ak (HH.keep aK).lH;rw[HC.out]at HR;have HR:=ae HR;clear aK)|(go_at_call 85;refine HR.mono ?_;rintro e W2 ⟨r,rfl,hr,bq⟩));have bu:=ae<|bc.trans bq;have AG:=ae<|(HH.keep bc).keep bq;have HB:=aq (w.heap.size≤W1.heap.size) (bc.size);generalize d.sec (1+b)=bs at *;have JJ:=ae<|sP hr (fun _=>Nat.zero_le _) yX;have Vo:=ae<|FJ (b:=bs) (p:=0) (ok:=true) fun _=>Nat.zero_le _;clear hr bq HR HA x0 x1 x2 x3 x4 bc;have HE:=aq (bD size bs=if(kM size bs (ft bs 0 true).2.1 (ft bs 0 true).2.2).2=true∧(ft bs 0 true).1≤1000 then((ft bs 0 true).1,(kM size bs (ft bs 0 true).2.1 (ft bs 0 true).2.2).1)else(0,List.replicate size 0)) (rfl);generalize(ft bs 0 true).1=n1 at *;generalize(ft bs 0 true).2.1=p1 at *;generalize(ft bs 0 true).2.2=k1 at *;go_upto_region 3 with(go_at_call 87;refine JJ.mono ?_;rintro e W3 ⟨rfl,wK,bV⟩);have bI:=ae<|bu.aG bV fun k hk=>.inr (by obtain⟨_,_,_,_,_,h4⟩:=wK;have h5:k=r:=hk;have:=HB.out;omega);have Dq:=ae (AG.ar bV fun k hk e=>by obtain⟨_,_,_,_,_,h4⟩:=wK;have h5:k=r:=e;have h6:=HH.lt hk;have:=HB.out;omega);have HT:=ae<|xZ size wK Vo yX;have dt:=ae (show w.heap.size≤r by obtain⟨_,_,_,_,_,h4⟩:=wK;have:=HB.out;omega);have x1:=(fj Dq).2.1;rw[Xf.out]at x1;clear bV wK JJ bu AG;generalize AX:(kM size bs p1 k1).2=k2 at *;generalize(kM size bs p1 k1).1=t1 at *;clear AX;go_upto_region 4 with(go_at_call 88;refine HT.mono ?_;rintro e W4 ⟨v,rfl,Z9,⟨p4,QM⟩,ey,hk4⟩);have cr:=ae<|bI.aG ey fun k hk=>.inr (by have h5:k=r:=hk;have:=dt.out;omega);have HS4:=ae (Dq.ar ey fun k hk e=>by have h5:k=r:=e;have h6:=HH.lt hk;have:=dt.out;omega);have z2:aM W4 r 2 (.bool k2):=by obtain⟨_,_,h1,_⟩:=QM;exact h1.ag rfl
 have y1:=(fj HS4).2.1;rw[Xf.out]at y1;have HV:=ae Z9;have HK:=aq (∀k,aJ v k→w.heap.size≤k) (fun k hk=>Nat.le_trans bI.size (hk4 k hk));clear ey QM Z9 hk4 HT bI Dq x1;have tc:∀w,(Instr.makeSlice 35 (.int .i64 size) (.int .i64 size)).run Tryz.prog w= .ok (.slice (some ⟨w.heap.size,0,none⟩) size size) (w.alloc (.cells (madeCells #[.int .u8 0] size) 5)):=fun w=>
  run_make_row' (P:=Tryz.prog) 35 5 _ 1 Tryz.underlying35 fC rfl .i64 .i64 size (by have:=lh.out;omega) (by have:=lh.out;omega) w
 have Sv:=ae tc;clear tc;have zeros:∀W,af au w W→DT 0 (List.replicate size 0) w (.returned (.tuple #[.int .i64 0,.slice (some ⟨W.heap.size,0,none⟩) size size])) (W.alloc (.cells (madeCells #[.int .u8 0] size) 5)):=fun W ho=>
  ⟨_,rfl,Ex W size (by have:=lh.out;omega),ho.alloc _,fun k hk=>by rw[aD]at hk;subst hk;exact ho.size⟩
 have HZ:=ae zeros;clear zeros
 cases k2 with
 |false=>
  have HE':=ae<|HE.trans (if_neg (by simp));exact ng
 |true=>
  by_cases hn:n1≤1000
  ·have HE':=ae<|HE.trans (if_pos ⟨rfl,hn⟩);have qM:¬(1000:Int)<n1:=aj;go_wp2_with fail;go_ret2;rw[HE'.out];exact⟨v,rfl,HV,cr,HK⟩
  ·have HE':=ae<|HE.trans (if_neg (fun h=>hn h.2));have qM:(1000:Int)<n1:=aj;exact ng
end
theorem ig {sh wr:Nat→Int}(h:iT sh wr=true):0≤wr 0∧wr 0<sh 2∧0≤wr 1∧wr 1<sh 3∧1≤wr 2∧wr 2≤1099511627776∧1≤wr 3∧wr 3≤1099511627776:=of_decide_eq_true h
def lB (b:List Int):Nat→Nat×Bool
 |0=>(0,true)
 |k+1=>(ft b (lB b k).1 (lB b k).2).2
def cQ (b:List Int)(k:Nat):Nat:=(ft b (lB b k).1 (lB b k).2).1
theorem zo {b:List Int}:∀k,(lB b k).2=true→(lB b k).1≤b.length
 |0,_=>Nat.zero_le _
 |k+1,h=>FJ (fun e=>zo k e) h
def cS (b:List Int):Nat×Nat×Nat:=
 if(lB b 3).2=true∧(lB b 3).1=b.length∧cQ b 0≤1099511627776∧cQ b 1≤1099511627776∧cQ b 2≤16 then(cQ b 0,cQ b 1,cQ b 2)else(0,0,0)
def Ar (b:List Int):Nat→Int:=fun i=>if i<5 then(cQ b i:Nat)else 0
def Au (size:Nat)(b:List Int):List Int×Bool:=kM size b (lB b 6).1 (lB b 6).2
def UF (sh:Nat→Int)(size:Nat)(b:List Int):Bool:=(Au size b).2&&iT sh (Ar b)&&decide ((cQ b 4:Int)<sh 0)&&decide (1≤cQ b 5)&&decide (cQ b 5≤1000)
def bB (vs:List Nat):List Int:=vs.flatMap dY
theorem tR (vs:List Nat){k:Nat}(hk:k<vs.length):bB (vs.take (k+1))=bB (vs.take k) ++ dY (vs.getD k 0):=by
 unfold bB;rw[List.take_add_one,List.flatMap_append];simp[List.getD,hk]
theorem FM {b post:List Int}{vs:List Nat}(hb:b=bB vs ++ post){k:Nat}(hk:k<vs.length)(hv:vs.getD k 0<2 ^ 63):rd (b.drop (bB (vs.take k)).length)= .ok (vs.getD k 0) (dY (vs.getD k 0)).length:=by
 have e:bB vs=bB (vs.take (k+1)) ++ bB (vs.drop (k+1)):=by
  unfold bB;rw[←List.flatMap_append,List.take_append_drop]
 rw[hb,e,tR vs hk,List.append_assoc,List.append_assoc,List.drop_left];exact K8 _ _ hv
theorem zE {b post:List Int}{vs:List Nat}(hb:b=bB vs ++ post)(hv:∀k,k<vs.length→vs.getD k 0<2 ^ 63):∀k,k≤vs.length→lB b k=((bB (vs.take k)).length,true)∧(k<vs.length→cQ b k=vs.getD k 0)
 |0,_=>by
  refine⟨by simp[lB,bB],fun h=>?_⟩;have h1:=FM hb h (hv 0 h);have h2:ji b 0= .ok (vs.getD 0 0,0+(dY (vs.getD 0 0)).length):=by
   have e:(bB (vs.take 0)).length=0:=rfl;rw[e]at h1;unfold ji;rw[h1]
  show(ft b 0 true).1=_
  unfold ft;rw[if_pos rfl,vG h2]
 |k+1,hk=>by
  obtain⟨h0,h3⟩:=zE hb hv k aj;have hk':k<vs.length:=aj;have s7:∀j,j<vs.length→lB b j=((bB (vs.take j)).length,true)→ft b (bB (vs.take j)).length true=(vs.getD j 0,(bB (vs.take (j+1))).length,true):=fun j hj _=>by
   have h1:=FM hb hj (hv j hj);have h2:ji b (bB (vs.take j)).length= .ok (vs.getD j 0,(bB (vs.take j)).length+(dY (vs.getD j 0)).length):=by
    unfold ji;rw[h1]
   unfold ft;rw[if_pos rfl,vG h2,tR vs hj,List.length_append];rfl
  have e1:lB b (k+1)=((bB (vs.take (k+1))).length,true):=by
   rw[lB,h0]
   show(ft b (bB (vs.take k)).length true).2=_
   rw[s7 k hk' h0]
  refine⟨e1,fun h=>?_⟩;unfold cQ;rw[e1]
  show(ft b (bB (vs.take (k+1))).length true).1=_
  rw[s7 (k+1) h e1]
theorem Up {a o n:Nat}(ha:a≤1099511627776)(ho:o≤1099511627776)(hn:n≤16):cS (bB [a,o,n])=(a,o,n):=by
 have h:=zE (b:=bB [a,o,n]) (post:=[]) (vs:=[a,o,n]) (by rw[List.append_nil]) (fun k hk=>by
  have hk:k<3:=hk;rcases(show k=0∨k=1∨k=2 by omega)with rfl|rfl|rfl
  ·show a<_;omega
  ·show o<_;omega
  ·show n<_;omega)
 have h0:=(h 0 (by show 0≤3;decide)).2 (by show 0<3;decide);have h1:=(h 1 (by show 1≤3;decide)).2 (by show 1<3;decide);have h2:=(h 2 (by show 2≤3;decide)).2 (by show 2<3;decide);have h3:=(h 3 (by show 3≤3;decide)).1;unfold cS;rw[h3,h0,h1,h2];exact if_pos ⟨rfl,rfl,ha,ho,hn⟩
theorem G7 {b pre t:List Int}{size:Nat}(hb:b=pre ++ (dY t.length ++ t))(ht:t.length≤size)(h2:size<2 ^ 63):fT size b pre.length= .ok (t,b.length):=by
 have h:=(yp size t ht (Nat.lt_of_le_of_lt ht h2)).1 pre [];rw[List.append_nil,←hb]at h;rw[h,hb];simp only[List.length_append]
theorem LL {b pre t:List Int}{size:Nat}(hb:b=pre ++ (dY t.length ++ t))(ht:t.length=size)(h2:size<2 ^ 63):kM size b pre.length true=(t,true):=by
 unfold kM;rw[if_pos rfl,G7 hb (Nat.le_of_eq ht) h2];simp[ht]
def fw (v:Nat)(t:List Int):List Int:=bB [v] ++ (dY t.length ++ t)
theorem Je {v size:Nat}{t:List Int}(hv:v≤1000)(ht:t.length=size)(h2:size≤16):bD size (fw v t)=(v,t):=by
 have h:=zE (b:=fw v t) (post:=dY t.length ++ t) (vs:=[v]) rfl (fun k hk=>by
  obtain rfl:k=0:=by have hk:k<1:=hk;omega
  show v<_;omega)
 have h0:(ft (fw v t) 0 true).1=v:=(h 0 (by show 0≤1;decide)).2 (by show 0<1;decide);have h1:(ft (fw v t) 0 true).2=((bB [v]).length,true):=(h 1 (by show 1≤1;decide)).1;have V6:kM size (fw v t) (bB [v]).length true=(t,true):=LL rfl ht aj;unfold bD;rw[h0,h1,V6];exact if_pos ⟨rfl,hv⟩
theorem yG (size:Nat)(b:List Int):(bD size b).1≤1000:=by
 unfold bD
 split
 ·rename_i h;exact h.2
 ·exact fH _
theorem yw:∀(f n k:Nat),n<128 ^ (k+1)→(jm f n).length≤k+1
 |0,_,k,_=>Nat.le_add_left 1 k
 |f+1,n,k,h=>by
  rw[jm]
  split
  ·exact Nat.le_add_left 1 k
  ·rename_i h1
   cases k with
   |zero=>
    have:n<128:=by simpa using h
    omega
   |succ k=>
    have h2:n / 128<128 ^ (k+1):=by
     rw[Nat.div_lt_iff_lt_mul aE];rw[Nat.pow_succ]at h;exact h
    have:=yw f (n / 128) k h2
    show(jm f (n / 128)).length+1≤_
    omega
theorem dN {n k:Nat}(h:n<128 ^ (k+1)):(dY n).length≤k+1:=yw 8 n k h
theorem dO (v:Nat)(vs:List Nat):bB (v :: vs)=dY v ++ bB vs:=by simp[bB]
theorem jL{P:Prop}(h:P:=by
 simp only[List.length_append,bB,List.flatMap_nil,List.length_nil];omega):P:=h
theorem B1 {a o n:Nat}(ha:a≤1099511627776)(ho:o≤1099511627776)(hn:n≤16):(bB [a,o,n]).length≤13:=by
 rw[dO,dO,dO];have h1:=dN (n:=a) (k:=5) aj;have h2:=dN (n:=o) (k:=5) aj;have h3:=dN (n:=n) (k:=0) aj;exact jL
theorem MP {v:Nat}{t:List Int}(hv:v≤1000)(ht:t.length≤16):(fw v t).length≤19:=by
 unfold fw;rw[dO];have h1:=dN (n:=v) (k:=1) aj;have h2:=dN (n:=t.length) (k:=0) aj;exact jL
def uq (c s a o b v:Nat)(t:List Int):List Int:=bB [c,s,a,o,b,v] ++ (dY t.length ++ t)
theorem PT {c s a o b v:Nat}{t:List Int}(hc:c≤4)(hs:s≤4)(ha:a≤1099511627776)(ho:o≤1099511627776)(hb:b≤32)(hv:v≤1000)(ht:t.length≤16):(uq c s a o b v t).length≤34:=by
 unfold uq;rw[dO,dO,dO,dO,dO,dO];have h1:=dN (n:=c) (k:=0) aj;have h2:=dN (n:=s) (k:=0) aj;have h3:=dN (n:=a) (k:=5) aj;have h4:=dN (n:=o) (k:=5) aj;have h5:=dN (n:=b) (k:=0) aj;have h6:=dN (n:=v) (k:=1) aj;have h7:=dN (n:=t.length) (k:=0) aj;exact jL
theorem zM {n:Nat}(h:n<2 ^ 63):jX (dY n):=fun x hx=>wA 8 n (Nat.lt_of_lt_of_eq h aE) x hx
theorem sI {a b:List Int}(ha:jX a)(hb:jX b):jX (a ++ b):=fun x hx=>(List.mem_append.1 hx).elim (ha x) (hb x)
theorem sH:∀{vs:List Nat},(∀v∈vs,v<2 ^ 63)→jX (bB vs)
 | [],_=>fun x hx=>by cases hx
 |v :: vs,h=>by
  rw[dO];exact sI (zM (h v (List.mem_cons_self ..))) (sH fun u hu=>h u (List.mem_cons_of_mem _ hu))
def bw (sh:Nat→Int)(c s:Int):Nat:=(1+sh 0+sh 3*c+s).toNat
def cZ (sh:Nat→Int)(d:bC)(wr:Nat→Int)(t:List Int)(v:Nat):bC×Int:=
 if(d.write (1+(wr 4).toNat) (fw v t)).2≠0 then d.write (1+(wr 4).toNat) (fw v t)
 else if((d.write (1+(wr 4).toNat) (fw v t)).1.write (bw sh (wr 0) (wr 1)) (bB [(wr 2).toNat,(wr 3).toNat,0])).2≠0 then(d.write (1+(wr 4).toNat) (fw v t)).1.write (bw sh (wr 0) (wr 1)) (bB [(wr 2).toNat,(wr 3).toNat,0])
 else((d.write (1+(wr 4).toNat) (fw v t)).1.write (bw sh (wr 0) (wr 1)) (bB [(wr 2).toNat,(wr 3).toNat,0])).1.write 0 []
def cY (sh:Nat→Int)(size:Nat)(d:bC)(wr:Nat→Int)(t:List Int):bC×Int×Int:=
 if¬(0≤wr 4∧wr 4<sh 0)then(d,0,9)
 else if t.length≠size then(d,0,10)
 else if iT sh wr=false then(d,0,6)
 else if wr 2<(cS (d.sec (bw sh (wr 0) (wr 1)))).1∨(wr 2=(cS (d.sec (bw sh (wr 0) (wr 1)))).1∧wr 3<(cS (d.sec (bw sh (wr 0) (wr 1)))).2.1)then(d,0,12)
 else if wr 2=(cS (d.sec (bw sh (wr 0) (wr 1)))).1∧wr 3=(cS (d.sec (bw sh (wr 0) (wr 1)))).2.1 then(d,(cS (d.sec (bw sh (wr 0) (wr 1)))).2.2,0)
 else if(bD size (d.sec (1+(wr 4).toNat))).1=1000 then
  (if(d.write (bw sh (wr 0) (wr 1)) (bB [(wr 2).toNat,(wr 3).toNat,11])).2≠0 then((d.write (bw sh (wr 0) (wr 1)) (bB [(wr 2).toNat,(wr 3).toNat,11])).1,0,(d.write (bw sh (wr 0) (wr 1)) (bB [(wr 2).toNat,(wr 3).toNat,11])).2)
   else((d.write (bw sh (wr 0) (wr 1)) (bB [(wr 2).toNat,(wr 3).toNat,11])).1,11,0))
 else
  (if(d.write 0 (uq (wr 0).toNat (wr 1).toNat (wr 2).toNat (wr 3).toNat (wr 4).toNat ((bD size (d.sec (1+(wr 4).toNat))).1+1) t)).2≠0 then((d.write 0 (uq (wr 0).toNat (wr 1).toNat (wr 2).toNat (wr 3).toNat (wr 4).toNat ((bD size (d.sec (1+(wr 4).toNat))).1+1) t)).1,0,(d.write 0 (uq (wr 0).toNat (wr 1).toNat (wr 2).toNat (wr 3).toNat (wr 4).toNat ((bD size (d.sec (1+(wr 4).toNat))).1+1) t)).2)
   else((cZ sh (d.write 0 (uq (wr 0).toNat (wr 1).toNat (wr 2).toNat (wr 3).toNat (wr 4).toNat ((bD size (d.sec (1+(wr 4).toNat))).1+1) t)).1 wr t ((bD size (d.sec (1+(wr 4).toNat))).1+1)).1,0,(cZ sh (d.write 0 (uq (wr 0).toNat (wr 1).toNat (wr 2).toNat (wr 3).toNat (wr 4).toNat ((bD size (d.sec (1+(wr 4).toNat))).1+1) t)).1 wr t ((bD size (d.sec (1+(wr 4).toNat))).1+1)).2))
theorem bC.lW (d:bC)(i:Nat)(l:List Int):(d.write i l).2=8∨((d.write i l).2=0∧d.down=false∧(d.write i l).1.down=false∧∀j,(d.write i l).1.sec j=if j=i then l else d.sec j):=by
 unfold bC.write
 split
 ·exact .inl rfl
 ·rename_i h
  split
  ·exact .inl rfl
  ·exact .inr ⟨rfl,by simpa using h,by simpa using h,fun _=>rfl⟩
theorem bC.kF {d:bC}(h0:d.down=false)(h1:d.cA= -1)(i:Nat)(l:List Int):(d.write i l).2=0∧(d.write i l).1.cA= -1∧(d.write i l).1.down=false:=by
 unfold bC.write;rw[if_neg (by rw[h0];decide),if_neg (by rw[h1];decide)];refine⟨rfl,?_,h0⟩
 show(if d.cA - 1< -1 then(-1:Int)else d.cA - 1)= -1
 rw[h1];decide
section
variable {sh:Nat→Int}{size:Nat}{d:bC}{wr:Nat→Int}{t:List Int}
theorem qj (h0:d.down=false)(h1:d.cA= -1)(v:Nat):(cZ sh d wr t v).2=0∧(cZ sh d wr t v).1.cA= -1∧(cZ sh d wr t v).1.down=false:=by
 unfold cZ;obtain⟨a1,a2,a3⟩:=bC.kF h0 h1 (1+(wr 4).toNat) (fw v t);rw[if_neg (by rw[a1];decide)];obtain⟨b1,b2,b3⟩:=bC.kF a3 a2 (bw sh (wr 0) (wr 1)) (bB [(wr 2).toNat,(wr 3).toNat,0]);rw[if_neg (by rw[b1];decide)];exact bC.kF b3 b2 0 []
def mn (sh:Nat→Int)(size:Nat)(d:bC):bC:=if UF sh size (d.sec 0)=true then(cZ sh d (Ar (d.sec 0)) (Au size (d.sec 0)).1 (cQ (d.sec 0) 5)).1 else d
theorem RI (h0:d.down=false)(h1:d.cA= -1):(mn sh size d).cA= -1∧(mn sh size d).down=false:=by
 unfold mn
 split
 ·exact(qj h0 h1 _).2
 ·exact⟨h1,h0⟩
end
theorem kH {P:Program}{fn:Func}{p q u:Tmp}{ty ty2:TypeId}(h:fn.results=#[.cell p ty,.cell q ty2,.tmp u])(tmps:Array Value)(w:World)(g:Nat)(t:TypeId)(cs:Array Value)(fr:Nat×Nat)(d:TypeDesc)(a:Addr)(v:Value)
 (hp:tmps.getD p undef= .pointer (some ⟨g,0,none⟩)) (hg:w.heap[g]? =some (.cells cs t fr))
 (hu:P.underlying ty=some d) (hd:(match d with| .struct _| .array _ _=>true|_=>false)=true) (hi:(P.info? ty).map (·.size)=some cs.size)
 (hq:tmps.getD q undef= .pointer (some a)) (hl:(loadVar ty2 a).run P w= .ok v w):
 (results fn tmps).run P w= .ok (.tuple #[.agg cs,v,tmps.getD u undef]) w:=by
 have qL:tmps[p]?.getD undef= .pointer (some ⟨g,0,none⟩):=by simpa using hp
 have hq':tmps[q]?.getD undef= .pointer (some a):=by simpa using hq
 simp[results,h,qL,hq',asAddr,run_loadVar_row w g t ty cs fr d hg hu hd hi,hl,Sem.run_bind,Result.andThen]
def uo:Array Value:=#[.int .i64 0,.int .i64 0,.int .i64 0,.int .i64 0,.int .i64 0,.slice none 0 0]
section
variable {w:World}{sb db lb:Nat}{V:Nat→Value}{sh:Nat→Int}{d:bC}
theorem D0 {r base:Nat}{b:List Int}{p:Nat}(size:Int)(h:lq w r base b p false):
 Calls Tryz.prog 88 #[.pointer (some ⟨r,0,none⟩),.int .i64 size] w fun e w'=>e= .returned (.slice none 0 0)∧w=w':=by
 obtain⟨A,cp,h1,h2,h3,h4⟩:=h;have x2:aM w r 2 (.bool false):=h1.ag rfl;clear h1 h2 h3 h4
 go_enter Tryz.func88,Tryz.ntmps88
 go_wp2_with fail;go_ret;exact⟨rfl,rfl⟩
structure JrI (w0:World)(bs r wb vb pb:Nat)(k:Nat)(W:World):Prop where
 rd:lq W r bs [] 0 (k==0)
 nb:wb<bs∧vb<bs∧w0.heap.size≤bs
 wr:Box W wb 110 uo
 ve:Box W vb 3 #[.int .i64 0]
 pl:Box W pb 162 #[.pointer (some ⟨wb,0,none⟩),.pointer (some ⟨wb,1,none⟩),.pointer (some ⟨wb,2,none⟩),.pointer (some ⟨wb,3,none⟩),.pointer (some ⟨wb,4,none⟩),.pointer (some ⟨vb,0,none⟩)]
 on:af au w0 W
 n1:w0.heap.size≤wb∧w0.heap.size≤vb∧w0.heap.size≤pb
 n2:r≠wb∧r≠vb∧r≠pb∧wb≠vb∧wb≠pb∧vb≠pb
theorem LG (k:Nat):ft [] 0 (k==0)=(0,0,false):=by
 cases k with
 |zero=>rfl
 |succ n=>rfl
theorem OV (k:Nat)(hk:k<5):uo.setIfInBounds k (.int .i64 0)=uo:=by
 rcases(show k=0∨k=1∨k=2∨k=3∨k=4 by omega)with rfl|rfl|rfl|rfl|rfl<;>rfl
def Js (wb vb k:Nat):Nat:=if k=5 then vb else wb
def Jr (k:Nat):Nat:=if k=5 then 0 else k
theorem nZ{P:Prop}(h:P:=by
 rw[Nat.zero_add];rcases(show k=0∨k=1∨k=2∨k=3∨k=4∨k=5 by omega)with rfl|rfl|rfl|rfl|rfl|rfl<;>exact h.pl.ag rfl):P:=h
theorem oB{P:Prop}(h:P:=by
 rcases(show k=0∨k=1∨k=2∨k=3∨k=4 by omega)with rfl|rfl|rfl|rfl|rfl<;>exact⟨_,hw.ag rfl⟩):P:=h
theorem pn{P:Prop}(h:P:=by obtain⟨_,_,_,_,_,h5⟩:=h.rd;have h6:q=r:=hq;have:=h.nb;omega):P:=h
theorem PS {w0 W:World}{bs r wb vb pb k:Nat}(hk:k<6)(h:JrI w0 bs r wb vb pb k W):
 (∃g o,(some ⟨pb,0,none⟩:Option Addr)=some ⟨g,o,none⟩∧aM W g (o+k) (.pointer (some ⟨Js wb vb k,Jr k,none⟩)))∧
  Calls Tryz.prog 87 #[.pointer (some ⟨r,0,none⟩)] W fun e w'=>∃x:Int,e= .returned (.int .i64 x)∧(∃u,aM w' (Js wb vb k) (Jr k) u)∧w'.frozen? ⟨Js wb vb k,Jr k,none⟩=false∧JrI w0 bs r wb vb pb (k+1) (w'.setCell ⟨Js wb vb k,Jr k,none⟩ (.int .i64 x)):=by
 refine⟨⟨pb,0,rfl,?_⟩,?_⟩
 ·exact nZ
 ·refine(sP h.rd (fun _=>Nat.zero_le _) (fun x hx=>by cases hx)).mono ?_;rintro e w' ⟨rfl,hr,ho⟩;rw[LG]at hr ⊢;obtain⟨a1,a2,a3,a4,a5,a6⟩:=h.n2;have hw:=ho.ak h.wr (show¬wb=r from fun e=>a1 e.symm);have hv:=ho.ak h.ve (show¬vb=r from fun e=>a2 e.symm);have hp:=ho.ak h.pl (show¬pb=r from fun e=>a3 e.symm);have lG:af au w0 w':=h.on.aG ho fun q hq=>.inr pn
  obtain⟨n1,n2,n3⟩:=h.n1
  by_cases e5:k=5
  ·subst e5;have j:af (az vb) w' (w'.setCell ⟨vb,0,none⟩ (.int .i64 (0:Nat))):=(af.ai (az vb) w').setCell (p:=⟨vb,0,none⟩) (.inl (show az vb vb from rfl)) _;refine⟨_,rfl,⟨_,hv.ag rfl⟩,hv.free _,hr.ar j fun q h1 h2 e=>?_,h.nb,j.ak hw a4,hv.store 0 _,j.ak hp fun e=>a6 e.symm,lG.aG j fun q hq=>.inr (by have h6:q=vb:=hq;omega),h.n1,h.n2⟩;have h6:q=vb:=e;have:=h.nb;omega
  ·have eg:Js wb vb k=wb:=if_neg e5;have eo:Jr k=k:=if_neg e5;rw[eg,eo];have hk5:k<5:=aj;have j:af (az wb) w' (w'.setCell ⟨wb,k,none⟩ (.int .i64 (0:Nat))):=(af.ai (az wb) w').setCell (p:=⟨wb,k,none⟩) (.inl (show az wb wb from rfl)) _;have hz:=hw.store k (.int .i64 (0:Nat));rw[show((0:Nat):Int)=0 from rfl,OV k hk5]at hz;refine⟨_,rfl,?_,hw.free _,hr.ar j fun q h1 h2 e=>?_,h.nb,hz,j.ak hv fun e=>a4 e.symm,j.ak hp fun e=>a5 e.symm,lG.aG j fun q hq=>.inr (by have h6:q=wb:=hq;omega),h.n1,h.n2⟩
   ·exact oB
   ·have h6:q=wb:=e;have:=h.nb;omega
theorem gH{P:Prop}(h:P:=by
 first|exact⟨HW5.drew,rz.drew,z2,ek.drew⟩|exact eC|exact j9):P:=h
theorem pq{P:Prop}(h:P:=by first|(simp[Region.wanted,yielded];done)|(simp[Region.wanted,yielded];intro h;cases h)):P:=h
theorem jQ{P:Prop}(h:P:=by have h1:k=wb:=hk;have:=rf.out;omega):P:=h
theorem zX (he:d.sec 0= [])(h:bX w sb db lb V sh d):
 Calls Tryz.prog 57 #[.pointer (some ⟨sb,0,none⟩)] w fun e w'=>e= .returned (.tuple #[.agg uo,.int .i64 0,.bool false])∧af au w w':=by
 have HH:=ae h;have HE:=ae he;clear h he
 go_enter Tryz.func57,Tryz.ntmps57
 go_upto_region 1 with fail;have l8:=(af.ai au w).alloc (.cells #[.int .i64 0,.int .i64 0,.int .i64 0,.int .i64 0,.int .i64 0,.slice none 0 0] 110);have b1:=Box.fresh w 110 #[.int .i64 0,.int .i64 0,.int .i64 0,.int .i64 0,.int .i64 0,.slice none 0 0];have s9:=(af.ai au (w.alloc (.cells #[.int .i64 0,.int .i64 0,.int .i64 0,.int .i64 0,.int .i64 0,.slice none 0 0] 110))).alloc (.cells #[.int .i64 0] 3);have b2:=Box.fresh (w.alloc (.cells #[.int .i64 0,.int .i64 0,.int .i64 0,.int .i64 0,.int .i64 0,.slice none 0 0] 110)) 3 #[.int .i64 0];rw[show(w.alloc (.cells #[.int .i64 0,.int .i64 0,.int .i64 0,.int .i64 0,.int .i64 0,.slice none 0 0] 110)).heap.size=w.heap.size+1 by simp]at b2;have HW:=ae<|s9.ak b1 id;have HV:=ae b2;have HO:=ae<|l8.trans s9;have lh:=ae (show((w.alloc (.cells #[.int .i64 0,.int .i64 0,.int .i64 0,.int .i64 0,.int .i64 0,.slice none 0 0] 110)).alloc (.cells #[.int .i64 0] 3)).heap.size=w.heap.size+2 by simp);change Code.wp _ _ _ _ ((w.alloc (.cells #[.int .i64 0,.int .i64 0,.int .i64 0,.int .i64 0,.int .i64 0,.slice none 0 0] 110)).alloc (.cells #[.int .i64 0] 3));clear l8 s9 b1 b2;generalize(w.alloc (.cells #[.int .i64 0,.int .i64 0,.int .i64 0,.int .i64 0,.int .i64 0,.slice none 0 0] 110)).alloc (.cells #[.int .i64 0] 3)=W1 at *;obtain⟨wb,Db⟩:∃wb,wb=w.heap.size:=⟨_,rfl⟩;have rf:=ae Db;rw[←Db]at HW HV lh ⊢;clear Db;have HR:=ae<|sO (by decide:0<64) (HH.keep HO).ak (HH.keep HO).lH;go_upto_region 2 with(go_at_call 85;refine HR.mono ?_;rintro e W2 ⟨r,rfl,kJ,bq⟩);have fX:=ae kJ;have bu:=ae<|HO.trans bq;have Xc:=ae<|bq.ak HW id;have uW:=ae<|bq.ak HV id;have Ss:=ae (show W1.heap.size≤r∧r<W2.heap.size by obtain⟨_,_,h1,_,_,h4⟩:=kJ;exact⟨h4,h1.lt⟩);clear kJ bq HR HW HV HO;go_wp2_with fail;have J4:=(af.ai au W2).alloc (.cells #[.pointer (some ⟨wb,0,none⟩),.pointer (some ⟨wb,1,none⟩),.pointer (some ⟨wb,2,none⟩),.pointer (some ⟨wb,3,none⟩),.pointer (some ⟨wb,4,none⟩),.pointer (some ⟨wb+1,0,none⟩)] 162);have b3:=Box.fresh W2 162 #[.pointer (some ⟨wb,0,none⟩),.pointer (some ⟨wb,1,none⟩),.pointer (some ⟨wb,2,none⟩),.pointer (some ⟨wb,3,none⟩),.pointer (some ⟨wb,4,none⟩),.pointer (some ⟨wb+1,0,none⟩)];have Z5:=Xc.lt;have Jt:=uW.lt;have HJ:=ae (show JrI w W1.heap.size r wb (wb+1) W2.heap.size 0 (W2.alloc (.cells #[.pointer (some ⟨wb,0,none⟩),.pointer (some ⟨wb,1,none⟩),.pointer (some ⟨wb,2,none⟩),.pointer (some ⟨wb,3,none⟩),.pointer (some ⟨wb,4,none⟩),.pointer (some ⟨wb+1,0,none⟩)] 162))from
  {rd:=by rw[←HE.out];exact fX.ar J4 fun _ _ _=>id,nb:=by have h1:=lh.out;have h2:=rf.out;omega,wr:=J4.ak Xc id,ve:=J4.ak uW id,pl:=b3,on:=bu.trans J4,n1:=by have h2:=rf.out;have h3:=bu.size;omega,n2:=by have h1:=lh.out;have h2:=Ss.out;omega})
 clear J4 b3 Z5 Jt;generalize W2.alloc (.cells #[.pointer (some ⟨wb,0,none⟩),.pointer (some ⟨wb,1,none⟩),.pointer (some ⟨wb,2,none⟩),.pointer (some ⟨wb,3,none⟩),.pointer (some ⟨wb,4,none⟩),.pointer (some ⟨wb+1,0,none⟩)] 162)=W3 at *;have Dt:=ae<|vJ r 6 6 (some ⟨W2.heap.size,0,none⟩) (Js wb (wb+1)) Jr (JrI w W1.heap.size r wb (wb+1) W2.heap.size) W3 aE HJ fun k W hk hj=>PS hk hj;refine Dt.mono ?_;rintro e W4 ⟨rfl,Jy⟩;have vi:=ae Jy;have HT:=ae<|D0 (sh 1) (show lq W4 r W1.heap.size [] 0 false from Jy.rd);have JX:aF W4 sb 1 (sh 1):=Jy.on.cell (fj HH).2.1 id;have U5:aM W4 wb 5 (.slice none 0 0):=Jy.wr.ag rfl;have UW:W4.frozen? ⟨wb,5,none⟩=false:=Jy.wr.free _;clear Jy Dt HJ;go_upto_region 4 with(go_at_call 88;refine HT.mono ?_;rintro e W5 ⟨rfl,rfl⟩);have j5:af (az wb) W4 (W4.setCell ⟨wb,5,none⟩ (.slice none 0 0)):=(af.ai (az wb) W4).setCell (p:=⟨wb,5,none⟩) (.inl (show az wb wb from rfl)) _;have HW5:=aq (Box (W4.setCell ⟨wb,5,none⟩ (.slice none 0 0)) wb 110 uo) (vi.wr.store 5 _);have rz:=ae<|j5.ak vi.ve (show¬wb+1=wb by omega);have JG:=aq (¬r=wb) (vi.n2.1);have HRV:=aq (¬r=wb+1) (vi.n2.2.1);have ek:=ae<|vi.on.aG j5 fun k hk=>.inr jQ;have z2:aM (W4.setCell ⟨wb,5,none⟩ (.slice none 0 0)).drew r 2 (.bool false):=by
  obtain⟨_,_,h1,_⟩:=vi.rd;exact j5.cell (h1.ag rfl) (show¬r=wb from JG)
 change Code.wp _ _ _ _ (W4.setCell ⟨wb,5,none⟩ (.slice none 0 0));clear j5 JX U5 UW HT;generalize W4.setCell ⟨wb,5,none⟩ (.slice none 0 0)=W5 at *;refine gg (fun w':World=>Box w' wb 110 uo∧Box w' (wb+1) 3 #[.int .i64 0]∧aM w' r 2 (.bool false)∧af au w w') 34 ?_ ?_
 ·exact gH
 intro aC;refine aB (i:=0) (v:=.agg uo) aS rfl aS (fun _ _ _ h=>h) (yieldsIf_load_mid (by rfl) 110 _ rfl wb 0 rfl uo.toList _ (fun w hw j v hj=>by rw[Nat.zero_add];exact hw.1.ag (by rw[←Array.getElem?_toList];exact hj)) Tryz.underlying110 rfl aS) (by assumption) ?_;refine dU ?_;refine aB (i:=1) (v:=.int .i64 0) aS rfl aS (fun _ _ _ h=>h) (.inl ⟨by rfl,?_⟩) aC ?_
 ·intro w hSw;have hv1:=hSw.2.1.ag (i:=0) rfl;clear hSw;go_simp;(try with_reducible rfl)
 refine dU ?_;refine Dk [2,3,4,5,6,7,8,9,10,11] ?_;refine cX 12 fun K hK=>?_
 rw[if_neg pq];refine dy hK ?_ fun aC=>?_
 ·exact gH
 clear hK;refine Dk [13,14,15,16,17,18,19,20,21,22,23,24,25,26,27,28,29,30,31] ?_;refine cX 32 fun K hK=>?_
 refine wp_store_row 110 _ _ rfl wb uo rfl rfl 110 _ aC.1 aS rfl (by simp[uo,Value.oneCell']) ?_;have C7:af (az wb) W5.drew (W5.drew.setRow wb uo):=(af.ai (az wb) W5.drew).aw (.inl rfl) _;have eC:Box (W5.drew.setRow wb uo) wb 110 uo∧Box (W5.drew.setRow wb uo) (wb+1) 3 #[.int .i64 0]∧aM (W5.drew.setRow wb uo) r 2 (.bool false)∧af au w (W5.drew.setRow wb uo):=⟨aC.1.aw _,C7.ak aC.2.1 (show¬wb+1=wb by omega),C7.cell aC.2.2.1 (show¬r=wb from JG),aC.2.2.2.aG C7 fun k hk=>.inr jQ⟩;clear C7;refine dy hK ?_ fun aC=>?_
 ·exact gH
 clear hK;refine cX 33 fun K hK=>?_
 have Dw:=aC.2.1.ag (i:=0) rfl;have Ky:=aC.2.1.free 0;go_simp;have C6:af (az (wb+1)) (W5.drew.setRow wb uo) ((W5.drew.setRow wb uo).setCell ⟨wb+1,0,none⟩ (.int .i64 0)):=(af.ai (az (wb+1)) _).setCell (p:=⟨wb+1,0,none⟩) (.inl (show az (wb+1) (wb+1)from rfl)) _;have j9:Box ((W5.drew.setRow wb uo).setCell ⟨wb+1,0,none⟩ (.int .i64 0)) wb 110 uo∧Box ((W5.drew.setRow wb uo).setCell ⟨wb+1,0,none⟩ (.int .i64 0)) (wb+1) 3 #[.int .i64 0]∧aM ((W5.drew.setRow wb uo).setCell ⟨wb+1,0,none⟩ (.int .i64 0)) r 2 (.bool false)∧af au w ((W5.drew.setRow wb uo).setCell ⟨wb+1,0,none⟩ (.int .i64 0)):=⟨C6.ak aC.1 (show¬wb=wb+1 by omega),aC.2.1.store 0 _,C6.cell aC.2.2.1 (show¬r=wb+1 from HRV),aC.2.2.2.aG C6 fun k hk=>.inr (by have h1:k=wb+1:=hk;have:=rf.out;omega)⟩;clear Dw Ky C6;refine dy hK ?_ fun aC=>?_
 ·exact gH
 clear hK;refine dE ?_;have HS:=ae aC;clear aC eC j9 z2;go_wp2_with fail
 (try simp only[Exit.inBlock,Exit.then])
 refine bodyPost_ret (kH rfl _ _ wb _ uo (0,0) _ ⟨wb+1,0,none⟩ (.int .i64 0) rfl HS.1 Tryz.underlying110 rfl aS rfl (by have hv:=HS.2.1.ag (i:=0) rfl;go_simp)) rfl ?_;exact⟨rfl,HS.2.2.2⟩
end
theorem sV:∀(vs:List Nat),(bB vs).length≤9*vs.length
 | []=>Nat.le_refl _
 |v :: vs=>by
  rw[dO,List.length_append,List.length_cons];have:=sV vs;have:=Cd v;omega
def Rw (vs:List Nat)(w:World)(v i:Value)(wr:World):Prop:=∃k,k≤vs.length∧i= .int .i64 (k:Nat)∧Row 5 wr v (bytes (bB (vs.take k)))∧(∀j,aJ v j→w.heap.size≤j)∧af au w wr
section
theorem pk{P:Prop}(h:P:=by have:=sV (vs.take k);have:=HN.out;have:=List.length_take_le k vs;omega):P:=h
theorem kW (vs:List Nat){A:Option Addr}{cb:Nat}(w:World)(hn:vs.length≤6)(hv:∀k,k<vs.length→vs.getD k 0<2 ^ 63)
 (hc:∀k,k<vs.length→∃g o,A=some ⟨g,o,none⟩∧aF w g (o+k) (vs.getD k 0:Nat)):
 Calls Tryz.prog 92 #[.slice A vs.length cb] w (mM (bB vs) w):=by
 have HN:=ae hn;have HV:=ae hv;have HC:=ae hc;clear hn hv hc
 go_enter Tryz.func92,Tryz.ntmps92
 go_wp2_with fail
 go_loopw [3,8] (fun v i wr=>Rw vs w v i wr) (fun _ i _=>vs.length - (intOf i).toNat)
 case atStart=>exact⟨0,fH _,rfl,Row.lJ _ _,fun j hj=>(bo hj).elim,af.ai _ _⟩
 case round=>
  obtain⟨k,hk,rfl,hr,hb,ho⟩:=hrel;have HR:=ae hr;have HB:=ae hb;have HO:=ae ho;clear hr hb ho
  by_cases aY:k<vs.length
  ·obtain⟨g,o,hA,hc⟩:=HC.out k aY;subst hA;have HL:=ae aY;have uE:=HO.cell hc id;have jk:(k:Int)<vs.length:=aj;have hk6:(k:Int)<6:=by have:=HN.out;omega
   have HP:=ae<|wm _ (bB (vs.take k)) (vs.getD k 0) _ (HR.sa pk) pk (HV k aY);rw[←tR vs aY]at HP;clear hc aY hk;generalize vs.getD k 0=x at *;go_upto_region 6 with(go_at_call 119;refine HP.mono ?_;rintro e w1 ⟨v1,rfl,Wa,aK,ei⟩);have HQ:=aq (Rw vs w v1 (.int .i64 ((k:Int)+1)) w1) (⟨k+1,HL,by simp,Wa,fun j hj=>Nat.le_trans HO.size (ei j hj),HO.trans aK⟩);clear Wa aK ei HR HP;go_wp2_with fail
   go_roundw
   case rel=>(repeat first|exact HQ|(refine⟨HQ,?_⟩;(repeat(first|exact rfl|refine⟨rfl,?_⟩)))|apply Exists.intro)
   case measure=>simp[intOf];have:=HL.out;omega
  ·obtain rfl:k=vs.length:=aj;clear aY hk;go_wp2_with fail;go_ret;refine⟨_,rfl,?_,HO,HB⟩;have:=HR.out;rw[List.take_length]at this;exact this
theorem DZ {sb:Nat}{B:Option Addr}{n cb:Nat}(w:World):
 Calls Tryz.prog 90 #[.pointer (some ⟨sb,0,none⟩),.slice B n cb] w fun e w'=>∃sx lx,e= .returned (.func (.func 118) #[] #[.pointer (some ⟨lx,0,none⟩),.pointer (some ⟨sx,0,none⟩)])∧w.heap.size≤sx∧w.heap.size≤lx∧
  Box w' sx 70 #[.pointer (some ⟨sb,0,none⟩)]∧Box w' lx 60 #[.slice B n cb]∧af au w w':=by
 go_enter Tryz.func90,Tryz.ntmps90
 go_wp2_with fail;go_ret;have l8:=(af.ai au w).alloc (.cells #[.pointer (some ⟨sb,0,none⟩)] 70);have b1:=Box.fresh w 70 #[.pointer (some ⟨sb,0,none⟩)];have s9:=(af.ai au (w.alloc (.cells #[.pointer (some ⟨sb,0,none⟩)] 70))).alloc (.cells #[.slice B n cb] 60);have b2:=Box.fresh (w.alloc (.cells #[.pointer (some ⟨sb,0,none⟩)] 70)) 60 #[.slice B n cb];rw[show(w.alloc (.cells #[.pointer (some ⟨sb,0,none⟩)] 70)).heap.size=w.heap.size+1 by simp]at b2;exact⟨w.heap.size,w.heap.size+1,by simp,dX _,Nat.le_succ _,s9.ak b1 id,b2,l8.trans s9⟩
def kR:bC→List (Nat×List Int)→bC×Int
 |d,[]=>(d,0)
 |d,x :: r=>if(d.write x.1 x.2).2≠0 then d.write x.1 x.2 else kR (d.write x.1 x.2).1 r
variable {w:World}{sb db lb:Nat}{V:Nat→Value}{sh:Nat→Int}{d:bC}
def hX (sb db lb:Nat)(V:Nat→Value)(sh:Nat→Int)(d':bC)(w w':World):Prop:=
 ∃V',bX w' sb db lb V' sh d'∧(∀k,eE db lb V' k→eE db lb V k∨w.heap.size≤k)∧af (fun k=>k=db∨k=lb) w w'
theorem bC.GX (d:bC)(i:Nat)(l:List Int)(h0: -1≤d.cA)(h1:d.cA≤9223372036854775807): -1≤(d.write i l).1.cA∧(d.write i l).1.cA≤9223372036854775807:=by
 unfold bC.write
 split
 ·exact⟨h0,h1⟩
 ·split
  ·exact⟨h0,h1⟩
  ·show -1≤(if d.cA - 1< -1 then(-1:Int)else d.cA - 1)∧(if d.cA - 1< -1 then(-1:Int)else d.cA - 1)≤9223372036854775807
   split<;>omega
theorem hX.refl (h:bX w sb db lb V sh d):hX sb db lb V sh d w w:=⟨V,h,fun k hk=>.inl hk,af.ai _ _⟩
theorem hX.Tt {d':bC}{w':World}(h:hX sb db lb V sh d' w.drew w'):hX sb db lb V sh d' w w':=by
 obtain⟨V',a,b,c⟩:=h;exact⟨V',a,b,((af.ai _ w).drew).aG c fun _ h=>.inl h⟩
theorem hX.trans {w1 w2:World}{V1:Nat→Value}{d1 d2:bC}(h1:bX w1 sb db lb V1 sh d1)(E8:∀k,eE db lb V1 k→eE db lb V k∨w.heap.size≤k)(aK:af (fun k=>k=db∨k=lb) w w1)(h2:hX sb db lb V1 sh d2 w1 w2):hX sb db lb V sh d2 w w2:=by
 obtain⟨V2,a,b,c⟩:=h2;exact⟨V2,a,fun k hk=>(b k hk).elim (E8 k) fun h=>.inr (Nat.le_trans aK.size h),aK.aG c fun k hk=>.inl hk⟩
theorem DK {i:Nat}{l:List Int}{A:Option Addr}{n c:Nat}(h:bX w sb db lb V sh d)(hi:i<64)(hl:l.length≤64)(hB:jX l)(hb:cH w (.slice A n c) l)(UZ:∀k,aJ (.slice A n c) k→k≠db):
 Calls Tryz.prog 100 #[.pointer (some ⟨db,0,none⟩),.int .i64 i,.slice A n c] w fun e w'=>e= .returned (.int .i64 (d.write i l).2)∧hX sb db lb V sh (d.write i l).1 w w':=by
 refine(Ia hi hl h.f0 h.f1 h.lH hb UZ).mono ?_;rintro e w' ⟨V',rfl,hd,ho,hk⟩;have hr:=d.GX i l h.f0 h.f1;have R2:=h.off;refine⟨rfl,V',{ak:=ho.ak h.ak fun e=>R2 (e.elim .inl fun e=>.inr (.inl e)),lH:=hd,off:=fun e=>(hk _ e).elim R2 fun e=>?_,sd:=h.sd,f0:=hr.1,f1:=hr.2,tX:=fun j=>?_},hk,ho⟩
 ·have:=h.ak.lt;omega
 ·rcases d.GW i l j with⟨e,_⟩|e
  ·rw[e];exact hB
  ·rw[e];exact h.tX j
structure Vc (w:World)(db lb:Nat)(n lx sx sb g:Nat)(L:List (Nat×List Int))(Vl:Nat→Value)(g2:Nat):Prop where
 WR:aM w sx 0 (.pointer (some ⟨sb,0,none⟩))
 clx:aM w lx 0 (.slice (some ⟨g,0,none⟩) n n)
 vl:∀k,k<n→aM w g k (Vl k)
 WT:∀k,k<n→cH w (Vl k) (L.getD k default).2
 at_:∀k,k<n→aF w g2 k ((L.getD k default).1:Nat)
 ne:∀k,(k=sx∨k=lx∨k=g∨k=g2∨∃j,j<n∧aJ (Vl j) k)→k≠db∧k≠lb
theorem Vc.ar {w':World}{n lx sx g:Nat}{L:List (Nat×List Int)}{Vl:Nat→Value}{g2:Nat}(h:Vc w db lb n lx sx sb g L Vl g2)(ho:af (fun k=>k=db∨k=lb) w w'):Vc w' db lb n lx sx sb g L Vl g2 where
 WR:=ho.cell h.WR fun e=>e.elim (h.ne sx (.inl rfl)).1 (h.ne sx (.inl rfl)).2
 clx:=ho.cell h.clx fun e=>e.elim (h.ne lx (.inr (.inl rfl))).1 (h.ne lx (.inr (.inl rfl))).2
 vl:=fun k hk=>ho.cell (h.vl k hk) fun e=>e.elim (h.ne g (.inr (.inr (.inl rfl)))).1 (h.ne g (.inr (.inr (.inl rfl)))).2
 WT:=fun k hk=>(h.WT k hk).ar ho fun j hj e=>e.elim (h.ne j (.inr (.inr (.inr (.inr ⟨k,hk,hj⟩))))).1 (h.ne j (.inr (.inr (.inr (.inr ⟨k,hk,hj⟩))))).2
 at_:=fun k hk=>ho.cell (h.at_ k hk) fun e=>e.elim (h.ne g2 (.inr (.inr (.inr (.inl rfl))))).1 (h.ne g2 (.inr (.inr (.inr (.inl rfl))))).2
 ne:=h.ne
def Rs (sb db lb:Nat)(V:Nat→Value)(sh:Nat→Int)(d:bC)(n lx sx g:Nat)(L:List (Nat×List Int))(Vl:Nat→Value)(g2:Nat)(w:World)(i:Value)(wr:World):Prop:=
 ∃(k:Nat) (dk:bC) (Vk:Nat→Value),k≤n∧i= .int .i64 k∧kR d L=kR dk (L.drop k)∧bX wr sb db lb Vk sh dk∧(∀j,eE db lb Vk j→eE db lb V j∨w.heap.size≤j)∧af (fun k=>k=db∨k=lb) w wr∧Vc wr db lb n lx sx sb g L Vl g2
theorem Hc {n lx sx g g2:Nat}{L:List (Nat×List Int)}{Vl:Nat→Value}(h:bX w sb db lb V sh d)(hw:Vc w db lb n lx sx sb g L Vl g2)(hn:L.length=n)(hn6:n≤6)(hi:∀k,k<n→(L.getD k default).1<64∧(L.getD k default).2.length≤64∧jX (L.getD k default).2):
 Calls Tryz.prog 118 #[.slice (some ⟨g2,0,none⟩) n n,.pointer (some ⟨lx,0,none⟩),.pointer (some ⟨sx,0,none⟩)] w fun e w'=>e= .returned (.int .i64 (kR d L).2)∧hX sb db lb V sh (kR d L).1 w w':=by
 have HH:=ae h;have HW:=ae hw;have HN:=ae hn;have HN6:=ae hn6;have HI:=ae hi;have zl:=hw.clx;clear h hw hn hi hn6
 go_enter Tryz.func118,Tryz.ntmps118
 go_wp2_with fail
 go_loopw [10] (fun i wr=>Rs sb db lb V sh d n lx sx g L Vl g2 w i wr) (fun i _=>n - (intOf i).toNat)
 case atStart=>exact⟨0,d,V,fH _,rfl,by rw[List.drop_zero],HH,fun j hj=>.inl hj,af.ai _ _,HW⟩
 case round=>
  obtain⟨k,dk,Vk,hk,rfl,hwa,je,UT,ho,hwc⟩:=hrel;have HWA:=ae hwa;have bQ:=ae je;have Vs:=ae UT;have HO:=ae ho;have Gm:=ae hwc;clear hwa je UT ho hwc zl
  by_cases aY:k<n
  ·have jk:(k:Int)<n:=aj;have hk6:(k:Int)<6:=by have:=HN6.out;omega
   have cD:=ae aY;have y1:=Gm.vl k aY;have y2:=Gm.at_ k aY;have y3:=Gm.WR;have y4:=(fj bQ).2.2.2.2;obtain⟨Ak,ck,eVk,_,_,_⟩:=id (Gm.WT k aY);rw[eVk]at y1;have HX:=aq (L.drop k=L.getD k default :: L.drop (k+1)) (by
    rw[List.drop_eq_getElem_cons (by have:=HN.out;omega)];simp[List.getD,show k<L.length from by have:=HN.out;omega])
   have Kj:=ae<|DK (bQ.keep ((af.ai au wr).drew)) (HI k aY).1 (HI k aY).2.1 (HI k aY).2.2 (by have:=Gm.WT k aY;rw[eVk]at this;exact this.ar ((af.ai au wr).drew) fun _ _=>id) fun j hj=>(Gm.ne j (.inr (.inr (.inr (.inr ⟨k,aY,by rw[eVk];exact hj⟩))))).1;clear aY hk eVk;generalize L.getD k default=x at *;obtain⟨xi,xl⟩:=x;dsimp only at *;have d2:wr.drew.cell? _=_:=y2;have d3:wr.drew.cell? _=_:=y3;have d4:wr.drew.cell? _=_:=y4;go_upto_region 4 with fail;refine gg (fun w':World=>aM w' sx 0 (.pointer (some ⟨sb,0,none⟩))∧aM w' sb 4 (.pointer (some ⟨db,0,none⟩))∧aF w' g2 k xi) 10 ?_ ?_
   ·first|exact⟨d3,d4,d2⟩|exact wU
   intro aC;refine bE [0,1,2,3,4,5,6,7,8] ?_;refine cX 9 fun Kc hK=>?_
   go_simp;refine Kj.mono ?_;rintro e w1 ⟨rfl,hp0⟩;have Jw:=hp0.Tt;obtain⟨V1,a1,b1,c1⟩:=id Jw;have wU:aM w1 sx 0 (.pointer (some ⟨sb,0,none⟩))∧aM w1 sb 4 (.pointer (some ⟨db,0,none⟩))∧aF w1 g2 k xi:=⟨(Gm.ar c1).WR,(fj a1).2.2.2.2,c1.cell y2 fun e=>e.elim (Gm.ne g2 (.inr (.inr (.inr (.inl rfl))))).1 (Gm.ne g2 (.inr (.inr (.inr (.inl rfl))))).2⟩;clear a1 b1 c1 hp0 V1;refine dy hK ?_ fun aC=>?_
   ·first|exact⟨d3,d4,d2⟩|exact wU
   clear hK;refine dE ?_;clear aC d2 d3 d4;go_upto_region 5 with fail;have Fi:=ae Jw;clear Jw y1 y2 y3 y4 Kj;generalize hwv:dk.write xi xl=dw at *;obtain⟨d1,e1⟩:=dw;have HWV:=ae hwv;clear hwv;dsimp only at *
   by_cases he:e1=0
   ·subst he;have HQ:=aq (Rs sb db lb V sh d n lx sx g L Vl g2 w (.int .i64 ((k:Int)+1)) w1) (by
     obtain⟨V1,a,b,c⟩:=Fi.out;refine⟨k+1,d1,V1,cD,by simp,?_,a,fun j hj=>(b j hj).elim (Vs j) fun h=>.inr (Nat.le_trans HO.size h),HO.aG c fun k hk=>.inl hk,Gm.ar c⟩;rw[HWA.out,HX.out,kR,HWV.out,if_neg (fun h=>h rfl)])
    clear Fi Gm bQ Vs HO HWA HX HWV;go_wp2_with fail
    go_roundw
    case rel=>(repeat first|exact HQ|(refine⟨HQ,?_⟩;(repeat(first|exact rfl|refine⟨rfl,?_⟩)))|apply Exists.intro)
    case measure=>simp[intOf];have:=cD.out;omega
   ·have heb:(e1 != 0)=true:=by simpa using he
    have HE:=ae he;clear he;go_wp2_with fail;go_ret;have e2:kR d L=(d1,e1):=by rw[HWA.out,HX.out,kR,HWV.out,if_pos HE.out]
    rw[e2];exact⟨rfl,hX.trans bQ Vs HO Fi⟩
  ·obtain rfl:k=n:=aj;clear aY hk;go_wp2_with fail;go_ret;have e2:kR d L=(dk,0):=by rw[HWA.out,List.drop_eq_nil_of_le (Nat.le_of_eq HN.out)];rfl
   rw[e2];exact⟨rfl,Vk,bQ,Vs,HO⟩
end
theorem lq.other {w w':World}{r base nb:Nat}{b:List Int}{p:Nat}{ok:Bool}{x:Int}(h:lq w r base b p ok)(hb:Box w nb 3 #[.int .i64 x])(hr:r≠nb)(ho:af (az nb) w w'):lq w' r base b p ok:=by
 obtain⟨A,cp,h1,h2,h3,h4⟩:=h;refine⟨A,cp,ho.ak h1 hr,h2.keep ho fun h0 k hk _ e=>?_,fun k hk=>⟨(h3 k hk).1,(h3 k hk).2.1,Nat.lt_of_lt_of_le (h3 k hk).2.2 ho.size⟩,h4⟩;have e:k=nb:=e;subst e;obtain⟨g,o,hA,WB⟩:=h2.ag h0;subst hA;have hc:w.cell? ⟨g,o+0,none⟩=some (.int .u8 (b.getD 0 0)):=WB;clear WB;obtain rfl:g=k:=by have:=aD.1 hk;exact this
 rw[Nat.add_zero]at hc
 cases o with
 |zero=>rw[hb.ag (i:=0) rfl]at hc;cases hc
 |succ o=>
  have hg:w.heap[g]? =some (.cells #[.int .i64 x] 3 (0,0)):=hb;simp[World.cell?,hg]at hc
def laV (b:List Int)(k i:Nat):Nat:=if i<k then cQ b i else 0
structure LaI (w0:World)(b:List Int)(bs r bb nb pb:Nat)(k:Nat)(W:World):Prop where
 rd:lq W r bs b (lB b k).1 (lB b k).2
 c0:Box W bb 3 #[.int .i64 (laV b k 0:Nat)]
 c1:Box W (bb+1) 3 #[.int .i64 (laV b k 1:Nat)]
 c2:Box W nb 3 #[.int .i64 (laV b k 2:Nat)]
 pl:Box W pb 162 #[.pointer (some ⟨bb,0,none⟩),.pointer (some ⟨bb+1,0,none⟩),.pointer (some ⟨nb,0,none⟩)]
 on:af au w0 W
 n1:w0.heap.size≤bb∧w0.heap.size≤nb∧w0.heap.size≤bs
 n2:r≠bb∧r≠bb+1∧r≠nb∧r≠pb∧bb≠nb∧bb≠pb∧bb+1≠nb∧bb+1≠pb∧nb≠pb
def VT (bb nb k:Nat):Nat:=if k=0 then bb else if k=1 then bb+1 else nb
section
variable {w:World}{sb db lb:Nat}{V:Nat→Value}{sh:Nat→Int}{d:bC}
theorem PO {w0 W:World}{b:List Int}{bs r bb nb pb k:Nat}(hB:jX b)(hk:k<3)(h:LaI w0 b bs r bb nb pb k W):
 (∃g o,(some ⟨pb,0,none⟩:Option Addr)=some ⟨g,o,none⟩∧W.cell? ⟨g,o+k,none⟩=some (.pointer (some ⟨VT bb nb k,0,none⟩)))∧
  Calls Tryz.prog 87 #[.pointer (some ⟨r,0,none⟩)] W fun e w'=>∃x:Int,e= .returned (.int .i64 x)∧(∃u,w'.cell? ⟨VT bb nb k,0,none⟩=some u)∧w'.frozen? ⟨VT bb nb k,0,none⟩=false∧LaI w0 b bs r bb nb pb (k+1) (w'.setCell ⟨VT bb nb k,0,none⟩ (.int .i64 x)):=by
 refine⟨⟨pb,0,rfl,?_⟩,?_⟩
 ·rw[Nat.zero_add];rcases(show k=0∨k=1∨k=2 by omega)with rfl|rfl|rfl<;>exact h.pl.ag rfl
 ·refine(sP h.rd (fun e=>zo k e) hB).mono ?_;rintro e w' ⟨rfl,hr,ho⟩;obtain⟨m1,m2,m3,m4,m5,m6,m7,m8,m9⟩:=h.n2;have q0:=ho.ak h.c0 (show¬bb=r from fun e=>m1 e.symm);have q1:=ho.ak h.c1 (show¬bb+1=r from fun e=>m2 e.symm);have q2:=ho.ak h.c2 (show¬nb=r from fun e=>m3 e.symm);have qp:=ho.ak h.pl (show¬pb=r from fun e=>m4 e.symm);have lG:af au w0 w':=h.on.aG ho fun q hq=>.inr (by obtain⟨_,_,_,_,_,h5⟩:=h.rd;have h6:q=r:=hq;have:=h.n1;omega)
  obtain⟨n1,n2,n3⟩:=h.n1;have hr:lq w' r bs b (lB b (k+1)).1 (lB b (k+1)).2:=hr;have hval:(ft b (lB b k).1 (lB b k).2).1=cQ b k:=rfl;rw[hval];rcases(show k=0∨k=1∨k=2 by omega)with rfl|rfl|rfl
  ·have j:af (az bb) w' (w'.setCell ⟨bb,0,none⟩ (.int .i64 (cQ b 0:Nat))):=(af.ai (az bb) w').setCell (p:=⟨bb,0,none⟩) (.inl (show az bb bb from rfl)) _;exact⟨_,rfl,⟨_,q0.ag rfl⟩,q0.free _,hr.other q0 m1 j,q0.store 0 _,j.ak q1 (show¬bb+1=bb by omega),j.ak q2 (fun e=>m5 (show nb=bb from e).symm),j.ak qp (fun e=>m6 (show pb=bb from e).symm),lG.aG j fun q hq=>.inr (by have h6:q=bb:=hq;omega),h.n1,h.n2⟩
  ·have j:af (az (bb+1)) w' (w'.setCell ⟨bb+1,0,none⟩ (.int .i64 (cQ b 1:Nat))):=(af.ai (az (bb+1)) w').setCell (p:=⟨bb+1,0,none⟩) (.inl (show az (bb+1) (bb+1)from rfl)) _;exact⟨_,rfl,⟨_,q1.ag rfl⟩,q1.free _,hr.other q1 m2 j,j.ak q0 (show¬bb=bb+1 by omega),q1.store 0 _,j.ak q2 (fun e=>m7 (show nb=bb+1 from e).symm),j.ak qp (fun e=>m8 (show pb=bb+1 from e).symm),lG.aG j fun q hq=>.inr (by have h6:q=bb+1:=hq;omega),h.n1,h.n2⟩
  ·have j:af (az nb) w' (w'.setCell ⟨nb,0,none⟩ (.int .i64 (cQ b 2:Nat))):=(af.ai (az nb) w').setCell (p:=⟨nb,0,none⟩) (.inl (show az nb nb from rfl)) _;exact⟨_,rfl,⟨_,q2.ag rfl⟩,q2.free _,hr.other q2 m3 j,j.ak q0 (fun e=>m5 (show bb=nb from e)),j.ak q1 (fun e=>m7 (show bb+1=nb from e)),q2.store 0 _,j.ak qp (fun e=>m9 (show pb=nb from e).symm),lG.aG j fun q hq=>.inr (by have h6:q=nb:=hq;omega),h.n1,h.n2⟩
theorem lV {W:World}{b o:Nat}{v:Value}(h:W.cell? ⟨b,o,none⟩=some v):(loadVar 3 ⟨b,o,none⟩).run Tryz.prog W= .ok v W:=by
 have hv:=h;go_simp
def Ry (b:List Int)(w:World)(e:Ending)(w':World):Prop:=e= .returned (.tuple #[.int .i64 (cS b).1,.int .i64 (cS b).2.1,.int .i64 (cS b).2.2])∧af au w w'
theorem ui {P:Program}{fn:Func}{p q u:Tmp}{ty ty2:TypeId}(h:fn.results=#[.cell p ty,.cell q ty2,.tmp u])(tmps:Array Value)(w:World)(a1 a2:Addr)(v1 v2:Value)
 (hp:tmps.getD p undef= .pointer (some a1)) (hq:tmps.getD q undef= .pointer (some a2)) (h1:(loadVar ty a1).run P w= .ok v1 w) (h2:(loadVar ty2 a2).run P w= .ok v2 w):
 (results fn tmps).run P w= .ok (.tuple #[v1,v2,tmps.getD u undef]) w:=by
 have qL:tmps[p]?.getD undef= .pointer (some a1):=by simpa using hp
 have hq':tmps[q]?.getD undef= .pointer (some a2):=by simpa using hq
 simp[results,h,qL,hq',asAddr,h1,h2,Sem.run_bind,Result.andThen]
theorem mX{P:Prop}(h:P:=by
 exact⟨by rw[HL.out];rfl,(HON.aG j0 fun k hk=>.inr (by have e:k=bb:=hk;have:=HBW.out;omega)).aG j1 fun k hk=>.inr (by have e:k=bb+1:=hk;have:=HBW.out;omega)⟩):P:=h
theorem nx{P:Prop}(h:P:=by
 refine dE ?_;clear aC d0 d1 d2 e0 e1 e2;generalize W6.drew=W7 at *;go_upto_region 5 with fail;have g0:=Be.free 0;have g1:=b8.free 0;have y0:W7.cell? ⟨bb,0,none⟩=some (.int .i64 v0):=Be.ag rfl;have y1:W7.cell? ⟨bb+1,0,none⟩=some (.int .i64 v1):=b8.ag rfl;have j0:af (az bb) W7 (W7.setCell ⟨bb,0,none⟩ (.int .i64 0)):=(af.ai (az bb) W7).setCell (p:=⟨bb,0,none⟩) (.inl (show az bb bb from rfl)) _;have j1:af (az (bb+1)) (W7.setCell ⟨bb,0,none⟩ (.int .i64 0)) ((W7.setCell ⟨bb,0,none⟩ (.int .i64 0)).setCell ⟨bb+1,0,none⟩ (.int .i64 0)):=(af.ai (az (bb+1)) _).setCell (p:=⟨bb+1,0,none⟩) (.inl (show az (bb+1) (bb+1)from rfl)) _;have HY:=j0.ak b8 (show¬bb+1=bb by omega);have g2:(W7.setCell ⟨bb,0,none⟩ (.int .i64 0)).frozen? ⟨bb+1,0,none⟩=false:=HY.free 0;have y3:(W7.setCell ⟨bb,0,none⟩ (.int .i64 0)).cell? ⟨bb+1,0,none⟩=some (.int .i64 v1):=HY.ag rfl;clear HY;go_wp2_with fail
 (try simp only[Exit.inBlock,Exit.then])
 have z0:=j1.ak (Be.store 0 (.int .i64 0)) (show¬bb=bb+1 by omega);have z1:=(j0.ak b8 (show¬bb+1=bb by omega)).store 0 (.int .i64 0);refine bodyPost_ret (ui (P:=Tryz.prog) (ty:=3) (ty2:=3) rfl _ ((W7.setCell ⟨bb,0,none⟩ (.int .i64 0)).setCell ⟨bb+1,0,none⟩ (.int .i64 0)) ⟨bb,0,none⟩ ⟨bb+1,0,none⟩ (.int .i64 0) (.int .i64 0) rfl rfl (lV (z0.ag rfl)) (lV (z1.ag rfl))) rfl ?_;exact mX):P:=h
theorem nD{P:Prop}(h:P:=by
 intro aC;refine Dk [0,1,2,3,4,5,6,7,8,9,10,11,12,13,14,15,16,17,18,19,20,21,22,23,24,25,26,27] ?_;exact nx):P:=h
theorem jC{P:Prop}(h:P:=by
 go_upto_region 4 with fail;refine gg (fun w':World=>w'.cell? ⟨r,2,none⟩=some (.bool true)∧w'.cell? ⟨r,1,none⟩=some (.int .i64 p)∧w'.cell? ⟨r,0,none⟩=some (.slice A b.length cp)∧w'.cell? ⟨bb,0,none⟩=some (.int .i64 v0)∧w'.cell? ⟨bb+1,0,none⟩=some (.int .i64 v1)∧w'.cell? ⟨nb,0,none⟩=some (.int .i64 v2)) 28 ?_ ?_
 ·exact⟨d2,d1,d0,e0,e1,e2⟩
 exact nD):P:=h
theorem LB {c s:Int}(h0:0≤c)(h1:c<sh 2)(h2:0≤s)(h3:s<sh 3)(h:bX w sb db lb V sh d):
 Calls Tryz.prog 99 #[.pointer (some ⟨sb,0,none⟩),.int .i64 c,.int .i64 s] w (Ry (d.sec (bw sh c s)) w):=by
 have hm:=h.sd.mul h0 h1;have yU:=h.sd.b0;have ei:=h.sd.b1;have hsl:((bw sh c s:Nat):Int)=1+sh 0+sh 3*c+s∧bw sh c s<64:=by unfold bw;generalize sh 3*c=x at *;omega
 have HSI:=ae hsl;have Sp:=ae<|fun w=>rO h.sd h0 h1 h2 h3 w;have HH:=ae h;have yX:=ae<|h.tX (bw sh c s);clear hm yU ei hsl h h0 h1 h2 h3
 go_enter Tryz.func99,Tryz.ntmps99
 go_upto_region 1 with fail;have l8:=(af.ai au w).alloc (.cells #[.int .i64 0] 3);have b1:=Box.fresh w 3 #[.int .i64 0];have s9:=(af.ai au (w.alloc (.cells #[.int .i64 0] 3))).alloc (.cells #[.int .i64 0] 3);have b2:=Box.fresh (w.alloc (.cells #[.int .i64 0] 3)) 3 #[.int .i64 0];rw[show(w.alloc (.cells #[.int .i64 0] 3)).heap.size=w.heap.size+1 by simp]at b2;have XF:=ae<|s9.ak b1 id;have Kk:=ae b2;have HO:=ae<|l8.trans s9;have lh:=ae (show((w.alloc (.cells #[.int .i64 0] 3)).alloc (.cells #[.int .i64 0] 3)).heap.size=w.heap.size+2 by simp);change Code.wp _ _ _ _ ((w.alloc (.cells #[.int .i64 0] 3)).alloc (.cells #[.int .i64 0] 3));clear l8 s9 b1 b2;generalize(w.alloc (.cells #[.int .i64 0] 3)).alloc (.cells #[.int .i64 0] 3)=W1 at *;generalize tZ:w.heap.size=bb at *;have qx:=ae tZ;clear tZ;have Xg:=ae<|HH.keep HO;have AL:=aq (∀j v,(eu sh).toList[j]? =some v→W1.cell? ⟨sb,0+j,none⟩=some v) (fun j v hj=>by
  rw[Nat.zero_add];have Jy:j<4:=(List.getElem?_eq_some_iff.1 hj).1;refine Xg.ak.ag ?_;rcases(show j=0∨j=1∨j=2∨j=3 by omega)with rfl|rfl|rfl|rfl<;>exact hj)
 go_upto_region 2 with(first|(refine wpList_load_mid rfl 74 _ rfl sb 0 rfl (eu sh).toList _ AL Tryz.underlying74 rfl aS ?_)|(go_at_call 94;refine(Sp _).mono ?_;rintro e W2 ⟨rfl,bq⟩;have bu:=ae bq;have AG:=ae<|Xg.keep bq;have AH:=ae<|sO HSI.2 AG.ak AG.lH;rw[HSI.1]at AH;clear bq)|(go_at_call 85;refine AH.mono ?_;rintro e W3 ⟨r,rfl,wK,bV⟩));have ej:=ae wK;have bI:=ae<|(HO.trans bu).trans bV;have YN:=ae<|bV.ak (bu.ak XF id) id;have YL:=ae<|bV.ak (bu.ak Kk id) id;have Ss:=ae (show W2.heap.size≤r∧r<W3.heap.size by obtain⟨_,_,h1,_,_,h4⟩:=wK;exact⟨h4,h1.lt⟩);have JC:=ae (show bb+2≤W2.heap.size by have h1:=lh.out;have h2:=bu.size;omega);clear wK bV AH Sp AL Xg AG HO bu XF Kk lh;generalize d.sec (bw sh c s)=b at *;go_upto_region 3 with fail;have al4:=(af.ai au W3).alloc (.cells #[.int .i64 0] 3);have b4:=Box.fresh W3 3 #[.int .i64 0];change Code.wp _ _ _ _ (W3.alloc (.cells #[.int .i64 0] 3));have Nj:=ae b4;have cr:=ae al4;have HZ4:=aq (W3.heap.size<(W3.alloc (.cells #[.int .i64 0] 3)).heap.size) (b4.lt);clear al4 b4;generalize W3.alloc (.cells #[.int .i64 0] 3)=W4 at *;have jh:=ae<|ej.ar cr fun _ _ _=>id;have YM:=ae<|cr.ak YN id;have YK:=ae<|cr.ak YL id;have Yv:=ae<|bI.trans cr;have kL:=aq (r<W3.heap.size∧bb+1<W3.heap.size∧bb+1<r) (⟨Ss.2,by have:=JC.out;have:=Ss.out;omega,by have:=JC.out;have:=Ss.out;omega⟩);clear ej YN YL bI cr;generalize W3.heap.size=nb at *;go_wp2_with fail;have Dp:=(af.ai au W4).alloc (.cells #[.pointer (some ⟨bb,0,none⟩),.pointer (some ⟨bb+1,0,none⟩),.pointer (some ⟨nb,0,none⟩)] 162);have b5:=Box.fresh W4 162 #[.pointer (some ⟨bb,0,none⟩),.pointer (some ⟨bb+1,0,none⟩),.pointer (some ⟨nb,0,none⟩)];have HJ:=ae (show LaI w b W2.heap.size r bb nb W4.heap.size 0 (W4.alloc (.cells #[.pointer (some ⟨bb,0,none⟩),.pointer (some ⟨bb+1,0,none⟩),.pointer (some ⟨nb,0,none⟩)] 162))from
  {rd:=jh.ar Dp fun _ _ _=>id,c0:=Dp.ak YM id,c1:=Dp.ak YK id,c2:=Dp.ak Nj id,pl:=b5,on:=Yv.trans Dp,n1:=by have h1:=qx.out;have h2:=JC.out;have h3:=kL.out;omega,n2:=by have h1:=kL.out;have h2:=HZ4.out;omega})
 clear Dp b5;generalize W4.alloc (.cells #[.pointer (some ⟨bb,0,none⟩),.pointer (some ⟨bb+1,0,none⟩),.pointer (some ⟨nb,0,none⟩)] 162)=W5 at *;have Dt:=ae<|vJ r 3 3 (some ⟨W4.heap.size,0,none⟩) (VT bb nb) (fun _=>0) (LaI w b W2.heap.size r bb nb W4.heap.size) W5 aE HJ fun k W hk hj=>PO yX hk hj;refine Dt.mono ?_;rintro e W6 ⟨rfl,hj6⟩;have Vt:=ae hj6;clear hj6 Dt HJ jh YM YK Nj Yv;obtain⟨A,cp,hx,_,_,_⟩:=id Vt.rd;have JL:=aq (cS b=if(lB b 3).2=true∧(lB b 3).1=b.length∧cQ b 0≤1099511627776∧cQ b 1≤1099511627776∧cQ b 2≤16 then(cQ b 0,cQ b 1,cQ b 2)else(0,0,0)) (rfl);have d0:W6.drew.cell? ⟨r,0,none⟩=some (.slice A b.length cp):=hx.ag rfl;have d1:W6.drew.cell? ⟨r,1,none⟩=some (.int .i64 ((lB b 3).1:Nat)):=hx.ag rfl;have d2:W6.drew.cell? ⟨r,2,none⟩=some (.bool (lB b 3).2):=hx.ag rfl;have Be:=aq (Box W6.drew bb 3 #[.int .i64 (cQ b 0:Nat)]) (Vt.c0);have b8:=aq (Box W6.drew (bb+1) 3 #[.int .i64 (cQ b 1:Nat)]) (Vt.c1);have dG:=aq (Box W6.drew nb 3 #[.int .i64 (cQ b 2:Nat)]) (Vt.c2);have HON:=aq (af au w W6.drew) (Vt.on.drew);have e0:W6.drew.cell? ⟨bb,0,none⟩=some (.int .i64 (cQ b 0:Nat)):=Be.ag rfl;have e1:W6.drew.cell? ⟨bb+1,0,none⟩=some (.int .i64 (cQ b 1:Nat)):=b8.ag rfl;have e2:W6.drew.cell? ⟨nb,0,none⟩=some (.int .i64 (cQ b 2:Nat)):=dG.ag rfl;have HBW:=aq (w.heap.size≤bb) (Nat.le_of_eq qx);clear hx Vt qx;generalize cQ b 0=v0 at *;generalize cQ b 1=v1 at *;generalize cQ b 2=v2 at *;generalize lB b 3=q at *;obtain⟨p,ok⟩:=q;dsimp only at *
 cases ok with
 |false=>
  have HL:=aq (cS b=(0,0,0)) (by rw[JL.out];exact if_neg fun h=>by cases h.1);go_upto_region 4 with fail;refine gg (fun w':World=>w'.cell? ⟨r,2,none⟩=some (.bool false)∧w'.cell? ⟨r,1,none⟩=some (.int .i64 p)∧w'.cell? ⟨r,0,none⟩=some (.slice A b.length cp)∧w'.cell? ⟨bb,0,none⟩=some (.int .i64 v0)∧w'.cell? ⟨bb+1,0,none⟩=some (.int .i64 v1)∧w'.cell? ⟨nb,0,none⟩=some (.int .i64 v2)) 28 ?_ ?_
  ·exact⟨d2,d1,d0,e0,e1,e2⟩
  exact nD
 |true=>
  by_cases hp:p=b.length
  ·have hpn:((p:Int) != (b.length:Int))=false:=by rw[hp];simp
   by_cases h0:v0≤1099511627776
   ·have h0i:¬(1099511627776:Int)<v0:=aj
    by_cases h1:v1≤1099511627776
    ·have WL:¬(1099511627776:Int)<v1:=aj
     by_cases h2:v2≤16
     ·have h2i:¬(16:Int)<v2:=aj;have HL:=aq (cS b=(v0,v1,v2)) (by rw[JL.out];exact if_pos ⟨rfl,hp,h0,h1,h2⟩);clear hp h0 h1 h2;go_upto_region 4 with fail;refine gg (fun w':World=>w'.cell? ⟨r,2,none⟩=some (.bool true)∧w'.cell? ⟨r,1,none⟩=some (.int .i64 p)∧w'.cell? ⟨r,0,none⟩=some (.slice A b.length cp)∧w'.cell? ⟨bb,0,none⟩=some (.int .i64 v0)∧w'.cell? ⟨bb+1,0,none⟩=some (.int .i64 v1)∧w'.cell? ⟨nb,0,none⟩=some (.int .i64 v2)) 28 ?_ ?_
      ·exact⟨d2,d1,d0,e0,e1,e2⟩
      intro aC;refine bE [0,1,2,3,4,5,6,7,8,9,10,11,12,13,14,15,16,17,18,19,20,21,22,23,24,25,26,27] ?_;refine dE ?_;clear aC d0 d1 d2 e0 e1 e2;generalize W6.drew=W7 at *;go_upto_region 6 with fail;have g0:=Be.free 0;have g1:=b8.free 0;have y0:W7.cell? ⟨bb,0,none⟩=some (.int .i64 v0):=Be.ag rfl;have y1:W7.cell? ⟨bb+1,0,none⟩=some (.int .i64 v1):=b8.ag rfl;have y2:W7.cell? ⟨nb,0,none⟩=some (.int .i64 v2):=dG.ag rfl;have j0:af (az bb) W7 (W7.setCell ⟨bb,0,none⟩ (.int .i64 v0)):=(af.ai (az bb) W7).setCell (p:=⟨bb,0,none⟩) (.inl (show az bb bb from rfl)) _;have j1:af (az (bb+1)) (W7.setCell ⟨bb,0,none⟩ (.int .i64 v0)) ((W7.setCell ⟨bb,0,none⟩ (.int .i64 v0)).setCell ⟨bb+1,0,none⟩ (.int .i64 v1)):=(af.ai (az (bb+1)) _).setCell (p:=⟨bb+1,0,none⟩) (.inl (show az (bb+1) (bb+1)from rfl)) _;have HY:=j0.ak b8 (show¬bb+1=bb by omega);have g2:(W7.setCell ⟨bb,0,none⟩ (.int .i64 v0)).frozen? ⟨bb+1,0,none⟩=false:=HY.free 0;have y3:(W7.setCell ⟨bb,0,none⟩ (.int .i64 v0)).cell? ⟨bb+1,0,none⟩=some (.int .i64 v1):=HY.ag rfl;clear HY;go_wp2_with fail
      (try simp only[Exit.inBlock,Exit.then])
      have z0:=j1.ak (Be.store 0 (.int .i64 v0)) (show¬bb=bb+1 by omega);have z1:=(j0.ak b8 (show¬bb+1=bb by omega)).store 0 (.int .i64 v1);refine bodyPost_ret (ui (P:=Tryz.prog) (ty:=3) (ty2:=3) rfl _ ((W7.setCell ⟨bb,0,none⟩ (.int .i64 v0)).setCell ⟨bb+1,0,none⟩ (.int .i64 v1)) ⟨bb,0,none⟩ ⟨bb+1,0,none⟩ (.int .i64 v0) (.int .i64 v1) rfl rfl (lV (z0.ag rfl)) (lV (z1.ag rfl))) rfl ?_;exact mX
     ·have h2i:(16:Int)<v2:=aj;have HL:=aq (cS b=(0,0,0)) (by rw[JL.out];exact if_neg fun h=>h2 h.2.2.2.2);clear hp h0 h1 h2;go_upto_region 4 with fail;refine gg (fun w':World=>w'.cell? ⟨r,2,none⟩=some (.bool true)∧w'.cell? ⟨r,1,none⟩=some (.int .i64 p)∧w'.cell? ⟨r,0,none⟩=some (.slice A b.length cp)∧w'.cell? ⟨bb,0,none⟩=some (.int .i64 v0)∧w'.cell? ⟨bb+1,0,none⟩=some (.int .i64 v1)∧w'.cell? ⟨nb,0,none⟩=some (.int .i64 v2)) 28 ?_ ?_
      ·exact⟨d2,d1,d0,e0,e1,e2⟩
      intro aC;refine bE [0,1,2,3,4,5,6,7,8,9,10,11,12,13,14,15,16,17,18,19,20,21,22,23,24,25,26,27] ?_;exact nx
    ·have WL:(1099511627776:Int)<v1:=aj;have HL:=aq (cS b=(0,0,0)) (by rw[JL.out];exact if_neg fun h=>h1 h.2.2.2.1);clear hp h0 h1;exact jC
   ·have h0i:(1099511627776:Int)<v0:=aj;have HL:=aq (cS b=(0,0,0)) (by rw[JL.out];exact if_neg fun h=>h0 h.2.2.1);clear hp h0;exact jC
  ·have hpn:((p:Int) != (b.length:Int))=true:=by simpa using fun e=>hp aj
   have HL:=aq (cS b=(0,0,0)) (by rw[JL.out];exact if_neg fun h=>hp h.2.1);clear hp;exact jC
end
theorem eH {sh:Nat→Int}{db j:Nat}{v:Value}(h:(eu sh).toList[j]? =some v):(eK sh db)[j]? =some v:=by
 have hj:j<4:=(List.getElem?_eq_some_iff.1 h).1;rcases(show j=0∨j=1∨j=2∨j=3 by omega)with rfl|rfl|rfl|rfl<;>exact h
section
variable {w:World}{sb db lb:Nat}{V:Nat→Value}{sh:Nat→Int}{d:bC}{wr:Nat→Int}{t:List Int}{v:Nat}{dv:Value}
theorem vU {W:World}{g:Nat}(h:Box W g 3 #[.int .i64 (v:Nat)])(hv:v≤1000):Calls Tryz.prog 92 #[.slice (some ⟨g,0,none⟩) 1 1] W (mM (bB [v]) W):=
 kW [v] W (by show 1≤6;decide) (fun k hk=>by
  obtain rfl:k=0:=by have hk:k<1:=hk;omega
  show v<_;omega) fun k hk=>by
  obtain rfl:k=0:=by have hk:k<1:=hk;omega
  exact⟨g,0,rfl,h.ag rfl⟩
theorem vT {W:World}{v3:Value}(h:Row 5 W v3 (bytes (bB [v])))(hd:cH W dv t)(ht:t.length≤16):Calls Tryz.prog 91 #[v3,dv] W (mM (fw v t) W):=by
 have:=sV [v];have e: [v].length=1:=rfl;exact uj v3 dv (bB [v]) t W (h.sa aj) hd aj aj
theorem nj{P:Prop}(h:P:=by
 have hk:k<3:=hk;have e2:(((wr 2).toNat:Nat):Int)=wr 2:=aj;have e3:(((wr 3).toNat:Nat):Int)=wr 3:=aj;rcases(show k=0∨k=1∨k=2 by omega)with rfl|rfl|rfl
 ·exact⟨g,0,rfl,by show aF W g 0 (((wr 2).toNat:Nat):Int);rw[e2];exact h.ag rfl⟩
 ·exact⟨g,0,rfl,by show aF W g 1 (((wr 3).toNat:Nat):Int);rw[e3];exact h.ag rfl⟩
 ·exact⟨g,0,rfl,h.ag rfl⟩):P:=h
theorem yx {W:World}{g:Nat}(h:Box W g 3 #[.int .i64 (wr 2),.int .i64 (wr 3),.int .i64 0])(hf:iT sh wr=true):Calls Tryz.prog 92 #[.slice (some ⟨g,0,none⟩) 3 3] W (mM (bB [(wr 2).toNat,(wr 3).toNat,0]) W):=by
 obtain⟨_,_,_,_,h4,h5,h6,h7⟩:=ig hf;refine kW [(wr 2).toNat,(wr 3).toNat,0] W (by show 3≤6;decide) (fun k hk=>?_) fun k hk=>?_
 ·have hk:k<3:=hk;rcases(show k=0∨k=1∨k=2 by omega)with rfl|rfl|rfl
  ·show(wr 2).toNat<_;omega
  ·show(wr 3).toNat<_;omega
  ·show 0<_;omega
 ·exact nj
theorem DU (sh:Nat→Int)(d:bC)(wr:Nat→Int)(t:List Int)(v:Nat):kR d [(1+(wr 4).toNat,fw v t),(bw sh (wr 0) (wr 1),bB [(wr 2).toNat,(wr 3).toNat,0]),(0,[])]=cZ sh d wr t v:=by
 unfold cZ;rw[kR,kR,kR,kR]
 by_cases h1:(d.write (1+(wr 4).toNat) (fw v t)).2≠0
 ·rw[if_pos h1,if_pos h1]
 ·rw[if_neg h1,if_neg h1]
  by_cases h2:((d.write (1+(wr 4).toNat) (fw v t)).1.write (bw sh (wr 0) (wr 1)) (bB [(wr 2).toNat,(wr 3).toNat,0])).2≠0
  ·rw[if_pos h2,if_pos h2]
  ·rw[if_neg h2,if_neg h2]
   by_cases h3:(((d.write (1+(wr 4).toNat) (fw v t)).1.write (bw sh (wr 0) (wr 1)) (bB [(wr 2).toNat,(wr 3).toNat,0])).1.write 0 []).2≠0
   ·rw[if_pos h3]
   ·rw[if_neg h3];have h3:(((d.write (1+(wr 4).toNat) (fw v t)).1.write (bw sh (wr 0) (wr 1)) (bB [(wr 2).toNat,(wr 3).toNat,0])).1.write 0 []).2=0:=aj;exact Prod.ext rfl h3.symm
theorem vI (hp:Fc sh){c s:Int}(h0:0≤c)(h1:c<sh 2)(h2:0≤s)(h3:s<sh 3):((bw sh c s:Nat):Int)=1+sh 0+sh 3*c+s∧bw sh c s<64:=by
 have hm:=hp.mul h0 h1;have b0:=hp.b0;have b1:=hp.b1;unfold bw;generalize sh 3*c=x at *;omega
theorem EI {W:World}{sx lx g13 U7:Nat}{v6 v12:Value}(h:bX w sb db lb V sh d)(ho:af au w W)(hs:bX W sb db lb V sh d)(hsx:Box W sx 70 #[.pointer (some ⟨sb,0,none⟩)])(hlx:Box W lx 60 #[.slice (some ⟨g13,0,none⟩) 3 3])
 (WM:Box W g13 35 #[v6,v12,.slice none 0 0]) (h31:Box W U7 3 #[.int .i64 (1+wr 4),.int .i64 (1+sh 0+sh 3*wr 0+wr 1),.int .i64 0]) (r6:Row 5 W v6 (bytes (fw v t))) (r12:Row 5 W v12 (bytes (bB [(wr 2).toNat,(wr 3).toNat,0])))
 (hf:iT sh wr=true) (yT:0≤wr 4∧wr 4<sh 0) (hv:v≤1000) (ht:t.length≤16) (hB:jX t) (hb6:∀k,aJ v6 k→w.heap.size≤k) (aaZ:∀k,aJ v12 k→w.heap.size≤k) (acE:w.heap.size≤g13) (acC:w.heap.size≤U7) (hl:w.heap.size≤sx∧w.heap.size≤lx):
 Calls Tryz.prog 118 #[.slice (some ⟨U7,0,none⟩) 3 3,.pointer (some ⟨lx,0,none⟩),.pointer (some ⟨sx,0,none⟩)] W fun e w'=>e= .returned (.int .i64 (cZ sh d wr t v).2)∧hX sb db lb V sh (cZ sh d wr t v).1 w w'∧af (fun k=>k=db∨k=lb) W w':=by
 obtain⟨f0,f1,f2,f3,f4,f5,f6,f7⟩:=ig hf;obtain⟨hsl,NL⟩:=vI h.sd f0 f1 f2 f3;have ei:=h.sd.b1;have aY:db<w.heap.size∧lb<w.heap.size:=⟨h.lH.lt (.inl rfl),h.lH.lt (.inr (.inl rfl))⟩;have acp:=B1 (a:=(wr 2).toNat) (o:=(wr 3).toNat) (n:=0) aj aj aj;have hblk:=MP (v:=v) (t:=t) hv ht;have eb:((1+(wr 4).toNat:Nat):Int)=1+wr 4:=aj;have HW:Vc W db lb 3 lx sx sb g13 [(1+(wr 4).toNat,fw v t),(bw sh (wr 0) (wr 1),bB [(wr 2).toNat,(wr 3).toNat,0]),(0,[])] (fun k=>[v6,v12,.slice none 0 0].getD k undef) U7:=
  {WR:=hsx.ag rfl,clx:=hlx.ag rfl,vl:=fun k hk=>by
    rcases(show k=0∨k=1∨k=2 by omega)with rfl|rfl|rfl<;>exact WM.ag rfl,WT:=fun k hk=>by
    rcases(show k=0∨k=1∨k=2 by omega)with rfl|rfl|rfl
    ·exact r6.sa aj
    ·exact r12.sa aj
    ·exact⟨none,0,rfl,dX _,fH _,Src.lJ _ _⟩,at_:=fun k hk=>by
    rcases(show k=0∨k=1∨k=2 by omega)with rfl|rfl|rfl
    ·show _=some (Value.int .i64 ((1+(wr 4).toNat:Nat):Int));rw[eb];exact h31.ag rfl
    ·show _=some (Value.int .i64 ((bw sh (wr 0) (wr 1):Nat):Int));rw[hsl];exact h31.ag rfl
    ·exact h31.ag rfl,ne:=fun k hk=>by
    rcases hk with rfl|rfl|rfl|rfl|⟨j,hj,hk⟩
    ·omega
    ·omega
    ·omega
    ·omega
    ·rcases(show j=0∨j=1∨j=2 by omega)with rfl|rfl|rfl
     ·have:=hb6 k hk;omega
     ·have:=aaZ k hk;omega
     ·exact(bo hk).elim}
 rw[←DU];refine(Hc hs HW rfl aE fun k hk=>?_).mono fun e w' ⟨he,hp⟩=>⟨he,hX.trans hs (fun k hk=>.inl hk) (ho.mono fun k hk=>hk.elim) hp,by obtain⟨_,_,_,h⟩:=hp;exact h⟩
 rcases(show k=0∨k=1∨k=2 by omega)with rfl|rfl|rfl
 ·exact⟨by show 1+(wr 4).toNat<64;omega,by show(fw v t).length≤64;omega,sI (sH fun x hx=>by rw[List.mem_singleton.1 hx];omega) (sI (zM aj) hB)⟩
 ·refine⟨NL,by show(bB [(wr 2).toNat,(wr 3).toNat,0]).length≤64;omega,sH fun x hx=>?_⟩;simp only[List.mem_cons,List.not_mem_nil,or_false]at hx;rcases hx with rfl|rfl|rfl<;>omega
 ·exact⟨by show 0<64;decide,by show 0≤64;decide,fun x hx=>by cases hx⟩
theorem oq{P:Prop}(h:P:=by
 have vp:=ae hr;have abM:=aq (∀k,aJ (.slice Bg n12 uU) k→w.heap.size≤k) (fun k hk=>Nat.le_trans jd (hb k hk));clear hr ho hb jd;refine dy hK ?_ fun aC=>?_
 ·first|exact eC|exact⟨cj,bQ.ak⟩
 clear hK;refine cX 13 fun Kc hK=>?_
 go_simp;clear aC;change Kc _ (uG.alloc (.cells #[.slice A6 n6 c6,.slice Bg n12 uU,.slice none 0 0] 35));have ho:=(af.ai au uG).alloc (.cells #[.slice A6 n6 c6,.slice Bg n12 uU,.slice none 0 0] 35);have bx:Box (uG.alloc (.cells #[.slice A6 n6 c6,.slice Bg n12 uU,.slice none 0 0] 35)) uG.heap.size 35 #[.slice A6 n6 c6,.slice Bg n12 uU,.slice none 0 0]:=Box.fresh uG 35 #[.slice A6 n6 c6,.slice Bg n12 uU,.slice none 0 0];have jd:w.heap.size≤uG.heap.size:=cO.size;generalize uG.alloc (.cells #[.slice A6 n6 c6,.slice Bg n12 uU,.slice none 0 0] 35)=NQ at *
 replace cj:=aq (Box NQ wb 110 (bP wr dv)) (ho.ak (cj) id)
 replace bQ:=aq (bX NQ sb db lb V sh d) ((bQ).keep ho)
 replace cO:=aq (af au w NQ) ((cO).trans ho)
 replace dx:=aq (cH NQ dv t) ((dx).ar ho fun _ _=>id)
 replace kK:=aq (Row 5 NQ (.slice A6 n6 c6) (bytes (fw v t))) ((kK).ar ho fun _ _=>id)
 replace vp:=aq (Row 5 NQ (.slice Bg n12 uU) (bytes (bB [(wr 2).toNat,(wr 3).toNat,0]))) ((vp).ar ho fun _ _=>id)
 generalize uG.heap.size=g13 at *;have abD:=aq (w.heap.size≤g13) (jd);have ze:=ae bx;clear ho bx jd;refine dy hK ?_ fun aC=>?_
 ·first|exact eC|exact⟨cj,bQ.ak⟩
 clear hK;refine cX 14 fun Kc hK=>?_
 go_simp;clear aC;have jd:=cO.size;refine(DZ _).mono ?_;rintro e QX ⟨sx,lx,rfl,hsx,hlx,bx1,bx2,ho⟩
 replace cj:=aq (Box QX wb 110 (bP wr dv)) (ho.ak (cj) id)
 replace bQ:=aq (bX QX sb db lb V sh d) ((bQ).keep ho)
 replace cO:=aq (af au w QX) ((cO).trans ho)
 replace dx:=aq (cH QX dv t) ((dx).ar ho fun _ _=>id)
 replace kK:=aq (Row 5 QX (.slice A6 n6 c6) (bytes (fw v t))) ((kK).ar ho fun _ _=>id)
 replace vp:=aq (Row 5 QX (.slice Bg n12 uU) (bytes (bB [(wr 2).toNat,(wr 3).toNat,0]))) ((vp).ar ho fun _ _=>id)
 replace ze:=aq (Box QX g13 35 #[.slice A6 n6 c6,.slice Bg n12 uU,.slice none 0 0]) (ho.ak (ze) id)
 have vy:=ae bx1;have vx:=ae bx2;have abB:=aq (w.heap.size≤sx∧w.heap.size≤lx) (⟨Nat.le_trans jd hsx,Nat.le_trans jd hlx⟩);clear hsx hlx bx1 bx2 ho jd;refine dy hK ?_ fun aC=>?_
 ·first|exact eC|exact⟨cj,bQ.ak⟩
 clear hK;refine cX 21 fun Kc hK=>?_
 go_simp;clear aC;refine(HA _).mono ?_;rintro e NP ⟨rfl,ho⟩
 replace cj:=aq (Box NP wb 110 (bP wr dv)) (ho.ak (cj) id)
 replace bQ:=aq (bX NP sb db lb V sh d) ((bQ).keep ho)
 replace cO:=aq (af au w NP) ((cO).trans ho)
 replace dx:=aq (cH NP dv t) ((dx).ar ho fun _ _=>id)
 replace kK:=aq (Row 5 NP (.slice A6 n6 c6) (bytes (fw v t))) ((kK).ar ho fun _ _=>id)
 replace vp:=aq (Row 5 NP (.slice Bg n12 uU) (bytes (bB [(wr 2).toNat,(wr 3).toNat,0]))) ((vp).ar ho fun _ _=>id)
 replace ze:=aq (Box NP g13 35 #[.slice A6 n6 c6,.slice Bg n12 uU,.slice none 0 0]) (ho.ak (ze) id)
 replace vy:=aq (Box NP sx 70 #[.pointer (some ⟨sb,0,none⟩)]) (ho.ak (vy) id)
 replace vx:=aq (Box NP lx 60 #[.slice (some ⟨g13,0,none⟩) 3 3]) (ho.ak (vx) id)
 clear ho;refine dy hK ?_ fun aC=>?_
 ·first|exact eC|exact⟨cj,bQ.ak⟩
 clear hK;refine cX 30 fun Kc hK=>?_
 go_simp;clear aC;refine(Sp _).mono ?_;rintro e A4 ⟨rfl,ho⟩
 replace cj:=aq (Box A4 wb 110 (bP wr dv)) (ho.ak (cj) id)
 replace bQ:=aq (bX A4 sb db lb V sh d) ((bQ).keep ho)
 replace cO:=aq (af au w A4) ((cO).trans ho)
 replace dx:=aq (cH A4 dv t) ((dx).ar ho fun _ _=>id)
 replace kK:=aq (Row 5 A4 (.slice A6 n6 c6) (bytes (fw v t))) ((kK).ar ho fun _ _=>id)
 replace vp:=aq (Row 5 A4 (.slice Bg n12 uU) (bytes (bB [(wr 2).toNat,(wr 3).toNat,0]))) ((vp).ar ho fun _ _=>id)
 replace ze:=aq (Box A4 g13 35 #[.slice A6 n6 c6,.slice Bg n12 uU,.slice none 0 0]) (ho.ak (ze) id)
 replace vy:=aq (Box A4 sx 70 #[.pointer (some ⟨sb,0,none⟩)]) (ho.ak (vy) id)
 replace vx:=aq (Box A4 lx 60 #[.slice (some ⟨g13,0,none⟩) 3 3]) (ho.ak (vx) id)
 clear ho;refine dy hK ?_ fun aC=>?_
 ·first|exact eC|exact⟨cj,bQ.ak⟩
 clear hK;refine cX 31 fun Kc hK=>?_
 go_simp;clear aC;change Kc _ (A4.alloc (.cells #[.int .i64 (1+wr 4),.int .i64 (1+sh 0+sh 3*wr 0+wr 1),.int .i64 0] 3));have ho:=(af.ai au A4).alloc (.cells #[.int .i64 (1+wr 4),.int .i64 (1+sh 0+sh 3*wr 0+wr 1),.int .i64 0] 3);have bx:Box (A4.alloc (.cells #[.int .i64 (1+wr 4),.int .i64 (1+sh 0+sh 3*wr 0+wr 1),.int .i64 0] 3)) A4.heap.size 3 #[.int .i64 (1+wr 4),.int .i64 (1+sh 0+sh 3*wr 0+wr 1),.int .i64 0]:=Box.fresh A4 3 #[.int .i64 (1+wr 4),.int .i64 (1+sh 0+sh 3*wr 0+wr 1),.int .i64 0];have jd:w.heap.size≤A4.heap.size:=cO.size;generalize A4.alloc (.cells #[.int .i64 (1+wr 4),.int .i64 (1+sh 0+sh 3*wr 0+wr 1),.int .i64 0] 3)=NN at *
 replace cj:=aq (Box NN wb 110 (bP wr dv)) (ho.ak (cj) id)
 replace bQ:=aq (bX NN sb db lb V sh d) ((bQ).keep ho)
 replace cO:=aq (af au w NN) ((cO).trans ho)
 replace dx:=aq (cH NN dv t) ((dx).ar ho fun _ _=>id)
 replace kK:=aq (Row 5 NN (.slice A6 n6 c6) (bytes (fw v t))) ((kK).ar ho fun _ _=>id)
 replace vp:=aq (Row 5 NN (.slice Bg n12 uU) (bytes (bB [(wr 2).toNat,(wr 3).toNat,0]))) ((vp).ar ho fun _ _=>id)
 replace ze:=aq (Box NN g13 35 #[.slice A6 n6 c6,.slice Bg n12 uU,.slice none 0 0]) (ho.ak (ze) id)
 replace vy:=aq (Box NN sx 70 #[.pointer (some ⟨sb,0,none⟩)]) (ho.ak (vy) id)
 replace vx:=aq (Box NN lx 60 #[.slice (some ⟨g13,0,none⟩) 3 3]) (ho.ak (vx) id)
 generalize A4.heap.size=U7 at *;have abC:=aq (w.heap.size≤U7) (jd);have aba:=ae bx;clear ho bx jd;refine dy hK ?_ fun aC=>?_
 ·first|exact eC|exact⟨cj,bQ.ak⟩
 clear hK;refine cX 32 fun Kc hK=>?_
 go_simp;clear aC;refine(EI HH cO bQ vy vx ze aba kK vp HF Bd HV AF yX xb abM abD abC abB).mono ?_;rintro e W32 ⟨rfl,hp,ho⟩;have eC:Box W32 wb 110 (bP wr dv)∧Box W32 sb 108 (eK sh db):=⟨ho.ak cj (fun e=>by have h1:=rf.out;have h2:=HH.lH.lt (.inl rfl);have h3:=HH.lH.lt (.inr (.inl rfl));rcases e with e|e<;>omega),by obtain⟨V2,a2,_,_⟩:=id hp;exact a2.ak⟩;clear ho;refine dy hK ?_ fun aC=>?_
 ·first|exact eC|exact⟨cj,bQ.ak⟩
 clear hK;refine dE ?_;go_wp2_with fail;go_ret;exact⟨rfl,hp⟩):P:=h
theorem nE{P:Prop}(h:P:=by
 have kK:=ae hr;have xb:=aq (∀k,aJ (.slice A6 n6 c6) k→w.heap.size≤k) (fun k hk=>Nat.le_trans jd (hb k hk));clear hr ho hb jd;refine dy hK ?_ fun aC=>?_
 ·first|exact eC|exact⟨cj,bQ.ak⟩
 clear hK;refine cX 12 fun Kc hK=>?_
 go_simp;clear aC;have jd:=cO.size;refine(yx mj HF).mono ?_;rintro e uG ⟨v12,rfl,hr,ho,hb⟩;obtain⟨Bg,uU,M8,wW,ur⟩:=hr.shape;subst M8;clear wW ur;generalize(bytes (bB [(wr 2).toNat,(wr 3).toNat,0])).length=n12 at hr hb ⊢
 replace cj:=aq (Box uG wb 110 (bP wr dv)) (ho.ak (cj) id)
 replace bQ:=aq (bX uG sb db lb V sh d) ((bQ).keep ho)
 replace cO:=aq (af au w uG) ((cO).trans ho)
 replace dx:=aq (cH uG dv t) ((dx).ar ho fun _ _=>id)
 replace mj:=aq (Box uG g11 3 #[.int .i64 (wr 2),.int .i64 (wr 3),.int .i64 0]) (ho.ak (mj) id)
 replace kK:=aq (Row 5 uG (.slice A6 n6 c6) (bytes (fw v t))) ((kK).ar ho fun _ _=>id)
 exact oq):P:=h
theorem oD{P:Prop}(h:P:=by
 have ej:=ae hr;have hG:=aq (∀k,aJ v3 k→w.heap.size≤k) (fun k hk=>Nat.le_trans jd (hb k hk));clear hr ho hb jd;refine dy hK ?_ fun aC=>?_
 ·first|exact eC|exact⟨cj,bQ.ak⟩
 clear hK;refine cX 6 fun Kc hK=>?_
 go_simp;clear aC;have jd:=cO.size;refine(vT ej dx AF).mono ?_;rintro e W6 ⟨v6,rfl,hr,ho,hb⟩;obtain⟨A6,c6,e6,wW,ur⟩:=hr.shape;subst e6;clear wW ur;generalize(bytes (fw v t)).length=n6 at hr hb ⊢
 replace cj:=aq (Box W6 wb 110 (bP wr dv)) (ho.ak (cj) id)
 replace bQ:=aq (bX W6 sb db lb V sh d) ((bQ).keep ho)
 replace cO:=aq (af au w W6) ((cO).trans ho)
 replace dx:=aq (cH W6 dv t) ((dx).ar ho fun _ _=>id)
 replace mj:=aq (Box W6 g11 3 #[.int .i64 (wr 2),.int .i64 (wr 3),.int .i64 0]) (ho.ak (mj) id)
 replace ej:=aq (Row 5 W6 v3 (bytes (bB [v]))) ((ej).ar ho fun _ _=>id)
 exact nE):P:=h
theorem jy{P:Prop}(h:P:=by
 intro w hSw;have hq:=hSw.1.ag (i:=1) (v:=.int .i64 (wr 1)) rfl;clear hSw;go_simp;(try with_reducible rfl)):P:=h
theorem di{P:Prop}(h:P:=by
 intro w hSw;have hq:=hSw.1.ag (i:=4) (v:=.int .i64 (wr 4)) rfl;clear hSw;go_simp;(try with_reducible rfl)):P:=h
theorem jF{P:Prop}(h:P:=by
 intro w hSw;have hq:=hSw.1.ag (i:=3) (v:=.int .i64 (wr 3)) rfl;clear hSw;go_simp;(try with_reducible rfl)):P:=h
theorem jo{P:Prop}(h:P:=by
 intro w hSw;have hq:=hSw.1.ag (i:=0) (v:=.int .i64 (wr 0)) rfl;clear hSw;go_simp;(try with_reducible rfl)):P:=h
theorem jK{P:Prop}(h:P:=by
 intro w hSw;have hq:=hSw.1.ag (i:=2) (v:=.int .i64 (wr 2)) rfl;clear hSw;go_simp;(try with_reducible rfl)):P:=h
theorem BQ {A:Option Addr}{n c:Nat}(h:bX w sb db lb V sh d)(hf:iT sh wr=true)(yT:0≤wr 4∧wr 4<sh 0)(hd:cH w (.slice A n c) t)(ht:t.length≤16)(hB:jX t)(hv:v≤1000):
 Calls Tryz.prog 58 #[.pointer (some ⟨sb,0,none⟩),.agg (bP wr (.slice A n c)),.int .i64 v] w fun e w'=>e= .returned (.int .i64 (cZ sh d wr t v).2)∧hX sb db lb V sh (cZ sh d wr t v).1 w w':=by
 obtain⟨f0,f1,f2,f3,f4,f5,f6,f7⟩:=ig hf;have ei:=h.sd.b1;have HA:=ae<|fun w=>uh (sh:=sh) (b:=wr 4) yT.1 aj w;have Sp:=ae<|fun w=>rO h.sd f0 f1 f2 f3 w;have HH:=ae h;have HF:=ae hf;have Bd:=ae yT;have AF:=ae ht;have yX:=ae hB;have HV:=ae hv;have dx:=ae hd;obtain⟨dv,Ay⟩:∃dv:Value,dv= .slice A n c:=⟨_,rfl⟩;rw[←Ay]at dx ⊢;clear h hf yT hd ht hB hv f0 f1 f2 f3 f4 f5 f6 f7 ei Ay
 go_enter Tryz.func58,Tryz.ntmps58
 go_upto_region 1 with fail;have ho:=(af.ai au w).alloc (.cells (bP wr dv) 110);have bx:=Box.fresh w 110 (bP wr dv);change Code.wp _ _ _ _ (w.alloc (.cells (bP wr dv) 110));generalize w.alloc (.cells (bP wr dv) 110)=W1 at *;generalize Db:w.heap.size=wb at *;have rf:=ae Db;clear Db;have cj:=aq (Box W1.drew wb 110 (bP wr dv)) (bx);have bQ:=aq (bX W1.drew sb db lb V sh d) (HH.keep ho.drew);have cO:=aq (af au w W1.drew) (ho.drew);have dx:=aq (cH W1.drew dv t) (dx.ar ho.drew fun _ _=>id);clear ho bx;refine gg (fun w':World=>Box w' wb 110 (bP wr dv)∧Box w' sb 108 (eK sh db)) 33 ?_ ?_
 ·first|exact eC|exact⟨cj,bQ.ak⟩
 intro aC;refine bE [0,1,4] ?_;refine aB (i:=5) (v:=dv) aS rfl aS (fun _ _ _ h=>h) (.inl ⟨by rfl,?_⟩) aC ?_
 ·intro w hSw;have hq:=hSw.1.ag (i:=5) (v:=dv) rfl;clear hSw;go_simp;(try with_reducible rfl)
 refine dU ?_;refine bE [7] ?_;refine aB (i:=8) (v:=.int .i64 (wr 2)) aS rfl aS (fun _ _ _ h=>h) (.inl ⟨by rfl,?_⟩) aC ?_
 ·exact jK
 refine dU ?_;refine bE [9] ?_;refine aB (i:=10) (v:=.int .i64 (wr 3)) aS rfl aS (fun _ _ _ h=>h) (.inl ⟨by rfl,?_⟩) aC ?_
 ·exact jF
 refine dU ?_;refine bE [15,16,17] ?_;refine aB (i:=18) (v:=.agg (eu sh)) aS rfl aS (fun _ _ _ h=>h) (yieldsIf_load_mid (by rfl) 74 _ rfl sb 0 rfl (eu sh).toList _ (fun w hw j v hj=>by rw[Nat.zero_add];exact hw.2.ag (eH hj)) Tryz.underlying74 rfl aS) (by assumption) ?_;refine dU ?_;refine bE [19] ?_;refine aB (i:=20) (v:=.int .i64 (wr 4)) aS rfl aS (fun _ _ _ h=>h) (.inl ⟨by rfl,?_⟩) aC ?_
 ·exact di
 refine dU ?_;refine bE [22,23,24] ?_;refine aB (i:=25) (v:=.agg (eu sh)) aS rfl aS (fun _ _ _ h=>h) (yieldsIf_load_mid (by rfl) 74 _ rfl sb 0 rfl (eu sh).toList _ (fun w hw j v hj=>by rw[Nat.zero_add];exact hw.2.ag (eH hj)) Tryz.underlying74 rfl aS) (by assumption) ?_;refine dU ?_;refine bE [26] ?_;refine aB (i:=27) (v:=.int .i64 (wr 0)) aS rfl aS (fun _ _ _ h=>h) (.inl ⟨by rfl,?_⟩) aC ?_
 ·exact jo
 refine dU ?_;refine bE [28] ?_;refine aB (i:=29) (v:=.int .i64 (wr 1)) aS rfl aS (fun _ _ _ h=>h) (.inl ⟨by rfl,?_⟩) aC ?_
 ·exact jy
 refine dU ?_;refine kE (i:=2) (j:=11) rfl rfl aS (fun Kc hK=>?_) (fun Kc hK=>?_)
 ·go_simp;clear aC;change Kc _ (W1.drew.alloc (.cells #[.int .i64 (v:Nat)] 3));have ho:=(af.ai au W1.drew).alloc (.cells #[.int .i64 (v:Nat)] 3);have bx:Box (W1.drew.alloc (.cells #[.int .i64 (v:Nat)] 3)) W1.heap.size 3 #[.int .i64 (v:Nat)]:=Box.fresh W1.drew 3 #[.int .i64 (v:Nat)];have jd:w.heap.size≤W1.heap.size:=cO.size;generalize W1.drew.alloc (.cells #[.int .i64 (v:Nat)] 3)=W2 at *
  replace cj:=aq (Box W2 wb 110 (bP wr dv)) (ho.ak (cj) id)
  replace bQ:=aq (bX W2 sb db lb V sh d) ((bQ).keep ho)
  replace cO:=aq (af au w W2) ((cO).trans ho)
  replace dx:=aq (cH W2 dv t) ((dx).ar ho fun _ _=>id)
  generalize W1.heap.size=g2 at *;have HG2:=aq (w.heap.size≤g2) (jd);have AA:=ae bx;clear ho bx jd;refine dy hK ?_ fun aC=>?_
  ·first|exact eC|exact⟨cj,bQ.ak⟩
  clear hK;refine kE (i:=3) (j:=11) rfl rfl aS (fun Kc hK=>?_) (fun Kc hK=>?_)
  ·go_simp;clear aC;have jd:=cO.size;refine(vU AA HV).mono ?_;rintro e W3 ⟨v3,rfl,hr,ho,hb⟩
   replace cj:=aq (Box W3 wb 110 (bP wr dv)) (ho.ak (cj) id)
   replace bQ:=aq (bX W3 sb db lb V sh d) ((bQ).keep ho)
   replace cO:=aq (af au w W3) ((cO).trans ho)
   replace dx:=aq (cH W3 dv t) ((dx).ar ho fun _ _=>id)
   replace AA:=aq (Box W3 g2 3 #[.int .i64 (v:Nat)]) (ho.ak (AA) id)
   have ej:=ae hr;have hG:=aq (∀k,aJ v3 k→w.heap.size≤k) (fun k hk=>Nat.le_trans jd (hb k hk));clear hr ho hb jd;refine dy hK ?_ fun aC=>?_
   ·first|exact eC|exact⟨cj,bQ.ak⟩
   clear hK;refine kE (i:=6) (j:=11) rfl rfl aS (fun Kc hK=>?_) (fun Kc hK=>?_)
   ·go_simp;clear aC;have jd:=cO.size;refine(vT ej dx AF).mono ?_;rintro e W6 ⟨v6,rfl,hr,ho,hb⟩;obtain⟨A6,c6,e6,wW,ur⟩:=hr.shape;subst e6;clear wW ur;generalize(bytes (fw v t)).length=n6 at hr hb ⊢
    replace cj:=aq (Box W6 wb 110 (bP wr dv)) (ho.ak (cj) id)
    replace bQ:=aq (bX W6 sb db lb V sh d) ((bQ).keep ho)
    replace cO:=aq (af au w W6) ((cO).trans ho)
    replace dx:=aq (cH W6 dv t) ((dx).ar ho fun _ _=>id)
    replace ej:=aq (Row 5 W6 v3 (bytes (bB [v]))) ((ej).ar ho fun _ _=>id)
    have kK:=ae hr;have xb:=aq (∀k,aJ (.slice A6 n6 c6) k→w.heap.size≤k) (fun k hk=>Nat.le_trans jd (hb k hk));clear hr ho hb jd;refine dy hK ?_ fun aC=>?_
    ·first|exact eC|exact⟨cj,bQ.ak⟩
    clear hK;refine cX 11 fun Kc hK=>?_
    go_simp;clear aC;change Kc _ (W6.alloc (.cells #[.int .i64 (wr 2),.int .i64 (wr 3),.int .i64 0] 3));have ho:=(af.ai au W6).alloc (.cells #[.int .i64 (wr 2),.int .i64 (wr 3),.int .i64 0] 3);have bx:Box (W6.alloc (.cells #[.int .i64 (wr 2),.int .i64 (wr 3),.int .i64 0] 3)) W6.heap.size 3 #[.int .i64 (wr 2),.int .i64 (wr 3),.int .i64 0]:=Box.fresh W6 3 #[.int .i64 (wr 2),.int .i64 (wr 3),.int .i64 0];have jd:w.heap.size≤W6.heap.size:=cO.size;generalize W6.alloc (.cells #[.int .i64 (wr 2),.int .i64 (wr 3),.int .i64 0] 3)=kq at *
    replace cj:=aq (Box kq wb 110 (bP wr dv)) (ho.ak (cj) id)
    replace bQ:=aq (bX kq sb db lb V sh d) ((bQ).keep ho)
    replace cO:=aq (af au w kq) ((cO).trans ho)
    replace dx:=aq (cH kq dv t) ((dx).ar ho fun _ _=>id)
    replace kK:=aq (Row 5 kq (.slice A6 n6 c6) (bytes (fw v t))) ((kK).ar ho fun _ _=>id)
    generalize W6.heap.size=g11 at *;have Tn:=aq (w.heap.size≤g11) (jd);have mj:=ae bx;clear ho bx jd;refine dy hK ?_ fun aC=>?_
    ·first|exact eC|exact⟨cj,bQ.ak⟩
    clear hK;refine cX 12 fun Kc hK=>?_
    go_simp;clear aC;have jd:=cO.size;refine(yx mj HF).mono ?_;rintro e uG ⟨v12,rfl,hr,ho,hb⟩;obtain⟨Bg,uU,M8,wW,ur⟩:=hr.shape;subst M8;clear wW ur;generalize(bytes (bB [(wr 2).toNat,(wr 3).toNat,0])).length=n12 at hr hb ⊢
    replace cj:=aq (Box uG wb 110 (bP wr dv)) (ho.ak (cj) id)
    replace bQ:=aq (bX uG sb db lb V sh d) ((bQ).keep ho)
    replace cO:=aq (af au w uG) ((cO).trans ho)
    replace dx:=aq (cH uG dv t) ((dx).ar ho fun _ _=>id)
    replace kK:=aq (Row 5 uG (.slice A6 n6 c6) (bytes (fw v t))) ((kK).ar ho fun _ _=>id)
    replace mj:=aq (Box uG g11 3 #[.int .i64 (wr 2),.int .i64 (wr 3),.int .i64 0]) (ho.ak (mj) id)
    exact oq
   ·go_simp;clear aC;change Kc _ (W3.alloc (.cells #[.int .i64 (wr 2),.int .i64 (wr 3),.int .i64 0] 3));have ho:=(af.ai au W3).alloc (.cells #[.int .i64 (wr 2),.int .i64 (wr 3),.int .i64 0] 3);have bx:Box (W3.alloc (.cells #[.int .i64 (wr 2),.int .i64 (wr 3),.int .i64 0] 3)) W3.heap.size 3 #[.int .i64 (wr 2),.int .i64 (wr 3),.int .i64 0]:=Box.fresh W3 3 #[.int .i64 (wr 2),.int .i64 (wr 3),.int .i64 0];have jd:w.heap.size≤W3.heap.size:=cO.size;generalize W3.alloc (.cells #[.int .i64 (wr 2),.int .i64 (wr 3),.int .i64 0] 3)=kq at *
    replace cj:=aq (Box kq wb 110 (bP wr dv)) (ho.ak (cj) id)
    replace bQ:=aq (bX kq sb db lb V sh d) ((bQ).keep ho)
    replace cO:=aq (af au w kq) ((cO).trans ho)
    replace dx:=aq (cH kq dv t) ((dx).ar ho fun _ _=>id)
    replace ej:=aq (Row 5 kq v3 (bytes (bB [v]))) ((ej).ar ho fun _ _=>id)
    generalize W3.heap.size=g11 at *;have Tn:=aq (w.heap.size≤g11) (jd);have mj:=ae bx;clear ho bx jd;refine dy hK ?_ fun aC=>?_
    ·first|exact eC|exact⟨cj,bQ.ak⟩
    clear hK;refine cX 6 fun Kc hK=>?_
    go_simp;clear aC;have jd:=cO.size;refine(vT ej dx AF).mono ?_;rintro e W6 ⟨v6,rfl,hr,ho,hb⟩;obtain⟨A6,c6,e6,wW,ur⟩:=hr.shape;subst e6;clear wW ur;generalize(bytes (fw v t)).length=n6 at hr hb ⊢
    replace cj:=aq (Box W6 wb 110 (bP wr dv)) (ho.ak (cj) id)
    replace bQ:=aq (bX W6 sb db lb V sh d) ((bQ).keep ho)
    replace cO:=aq (af au w W6) ((cO).trans ho)
    replace dx:=aq (cH W6 dv t) ((dx).ar ho fun _ _=>id)
    replace ej:=aq (Row 5 W6 v3 (bytes (bB [v]))) ((ej).ar ho fun _ _=>id)
    replace mj:=aq (Box W6 g11 3 #[.int .i64 (wr 2),.int .i64 (wr 3),.int .i64 0]) (ho.ak (mj) id)
    exact nE
  ·go_simp;clear aC;change Kc _ (W2.alloc (.cells #[.int .i64 (wr 2),.int .i64 (wr 3),.int .i64 0] 3));have ho:=(af.ai au W2).alloc (.cells #[.int .i64 (wr 2),.int .i64 (wr 3),.int .i64 0] 3);have bx:Box (W2.alloc (.cells #[.int .i64 (wr 2),.int .i64 (wr 3),.int .i64 0] 3)) W2.heap.size 3 #[.int .i64 (wr 2),.int .i64 (wr 3),.int .i64 0]:=Box.fresh W2 3 #[.int .i64 (wr 2),.int .i64 (wr 3),.int .i64 0];have jd:w.heap.size≤W2.heap.size:=cO.size;generalize W2.alloc (.cells #[.int .i64 (wr 2),.int .i64 (wr 3),.int .i64 0] 3)=kq at *
   replace cj:=aq (Box kq wb 110 (bP wr dv)) (ho.ak (cj) id)
   replace bQ:=aq (bX kq sb db lb V sh d) ((bQ).keep ho)
   replace cO:=aq (af au w kq) ((cO).trans ho)
   replace dx:=aq (cH kq dv t) ((dx).ar ho fun _ _=>id)
   replace AA:=aq (Box kq g2 3 #[.int .i64 (v:Nat)]) (ho.ak (AA) id)
   generalize W2.heap.size=g11 at *;have Tn:=aq (w.heap.size≤g11) (jd);have mj:=ae bx;clear ho bx jd;refine dy hK ?_ fun aC=>?_
   ·first|exact eC|exact⟨cj,bQ.ak⟩
   clear hK;refine cX 3 fun Kc hK=>?_
   go_simp;clear aC;have jd:=cO.size;refine(vU AA HV).mono ?_;rintro e W3 ⟨v3,rfl,hr,ho,hb⟩
   replace cj:=aq (Box W3 wb 110 (bP wr dv)) (ho.ak (cj) id)
   replace bQ:=aq (bX W3 sb db lb V sh d) ((bQ).keep ho)
   replace cO:=aq (af au w W3) ((cO).trans ho)
   replace dx:=aq (cH W3 dv t) ((dx).ar ho fun _ _=>id)
   replace AA:=aq (Box W3 g2 3 #[.int .i64 (v:Nat)]) (ho.ak (AA) id)
   replace mj:=aq (Box W3 g11 3 #[.int .i64 (wr 2),.int .i64 (wr 3),.int .i64 0]) (ho.ak (mj) id)
   exact oD
 ·go_simp;clear aC;change Kc _ (W1.drew.alloc (.cells #[.int .i64 (wr 2),.int .i64 (wr 3),.int .i64 0] 3));have ho:=(af.ai au W1.drew).alloc (.cells #[.int .i64 (wr 2),.int .i64 (wr 3),.int .i64 0] 3);have bx:Box (W1.drew.alloc (.cells #[.int .i64 (wr 2),.int .i64 (wr 3),.int .i64 0] 3)) W1.heap.size 3 #[.int .i64 (wr 2),.int .i64 (wr 3),.int .i64 0]:=Box.fresh W1.drew 3 #[.int .i64 (wr 2),.int .i64 (wr 3),.int .i64 0];have jd:w.heap.size≤W1.heap.size:=cO.size;generalize W1.drew.alloc (.cells #[.int .i64 (wr 2),.int .i64 (wr 3),.int .i64 0] 3)=kq at *
  replace cj:=aq (Box kq wb 110 (bP wr dv)) (ho.ak (cj) id)
  replace bQ:=aq (bX kq sb db lb V sh d) ((bQ).keep ho)
  replace cO:=aq (af au w kq) ((cO).trans ho)
  replace dx:=aq (cH kq dv t) ((dx).ar ho fun _ _=>id)
  generalize W1.heap.size=g11 at *;have Tn:=aq (w.heap.size≤g11) (jd);have mj:=ae bx;clear ho bx jd;refine dy hK ?_ fun aC=>?_
  ·first|exact eC|exact⟨cj,bQ.ak⟩
  clear hK;refine cX 2 fun Kc hK=>?_
  go_simp;clear aC;change Kc _ (kq.alloc (.cells #[.int .i64 (v:Nat)] 3));have ho:=(af.ai au kq).alloc (.cells #[.int .i64 (v:Nat)] 3);have bx:Box (kq.alloc (.cells #[.int .i64 (v:Nat)] 3)) kq.heap.size 3 #[.int .i64 (v:Nat)]:=Box.fresh kq 3 #[.int .i64 (v:Nat)];have jd:w.heap.size≤kq.heap.size:=cO.size;generalize kq.alloc (.cells #[.int .i64 (v:Nat)] 3)=W2 at *
  replace cj:=aq (Box W2 wb 110 (bP wr dv)) (ho.ak (cj) id)
  replace bQ:=aq (bX W2 sb db lb V sh d) ((bQ).keep ho)
  replace cO:=aq (af au w W2) ((cO).trans ho)
  replace dx:=aq (cH W2 dv t) ((dx).ar ho fun _ _=>id)
  replace mj:=aq (Box W2 g11 3 #[.int .i64 (wr 2),.int .i64 (wr 3),.int .i64 0]) (ho.ak (mj) id)
  generalize kq.heap.size=g2 at *;have HG2:=aq (w.heap.size≤g2) (jd);have AA:=ae bx;clear ho bx jd;refine dy hK ?_ fun aC=>?_
  ·first|exact eC|exact⟨cj,bQ.ak⟩
  clear hK;refine cX 3 fun Kc hK=>?_
  go_simp;clear aC;have jd:=cO.size;refine(vU AA HV).mono ?_;rintro e W3 ⟨v3,rfl,hr,ho,hb⟩
  replace cj:=aq (Box W3 wb 110 (bP wr dv)) (ho.ak (cj) id)
  replace bQ:=aq (bX W3 sb db lb V sh d) ((bQ).keep ho)
  replace cO:=aq (af au w W3) ((cO).trans ho)
  replace dx:=aq (cH W3 dv t) ((dx).ar ho fun _ _=>id)
  replace mj:=aq (Box W3 g11 3 #[.int .i64 (wr 2),.int .i64 (wr 3),.int .i64 0]) (ho.ak (mj) id)
  replace AA:=aq (Box W3 g2 3 #[.int .i64 (v:Nat)]) (ho.ak (AA) id)
  exact oD
end
def RX (b:List Int)(k:Nat):Nat→Int:=fun i=>if i<k∧i<5 then(cQ b i:Nat)else 0
structure JgI (w0:World)(b:List Int)(bs r wb pb:Nat)(k:Nat)(W:World):Prop where
 rd:lq W r bs b (lB b k).1 (lB b k).2
 nb:wb+1<bs∧w0.heap.size≤bs
 wr:Box W wb 110 (bP (RX b k) (.slice none 0 0))
 ve:Box W (wb+1) 3 #[.int .i64 (if 5<k then(cQ b 5:Nat)else 0:Int)]
 pl:Box W pb 162 #[.pointer (some ⟨wb,0,none⟩),.pointer (some ⟨wb,1,none⟩),.pointer (some ⟨wb,2,none⟩),.pointer (some ⟨wb,3,none⟩),.pointer (some ⟨wb,4,none⟩),.pointer (some ⟨wb+1,0,none⟩)]
 on:af au w0 W
 n1:w0.heap.size≤wb∧w0.heap.size≤pb
 n2:r≠wb∧r≠wb+1∧r≠pb∧wb≠pb∧wb+1≠pb
theorem PW (b:List Int){k:Nat}(hk:k<5)(v:Value):(bP (RX b k) v).setIfInBounds k (.int .i64 (cQ b k:Nat))=bP (RX b (k+1)) v:=by
 rcases(show k=0∨k=1∨k=2∨k=3∨k=4 by omega)with rfl|rfl|rfl|rfl|rfl<;>rfl
theorem PV (b:List Int):RX b 6=Ar b:=by
 funext i
 unfold RX Ar
 by_cases h:i<5
 ·rw[if_pos ⟨aj,h⟩,if_pos h]
 ·rw[if_neg (fun e=>h e.2),if_neg h]
section
variable {w:World}{sb db lb:Nat}{V:Nat→Value}{sh:Nat→Int}{d:bC}
theorem PU {w0 W:World}{b:List Int}{bs r wb pb k:Nat}(hB:jX b)(hk:k<6)(h:JgI w0 b bs r wb pb k W):
 (∃g o,(some ⟨pb,0,none⟩:Option Addr)=some ⟨g,o,none⟩∧aM W g (o+k) (.pointer (some ⟨Js wb (wb+1) k,Jr k,none⟩)))∧
  Calls Tryz.prog 87 #[.pointer (some ⟨r,0,none⟩)] W fun e w'=>∃x:Int,e= .returned (.int .i64 x)∧(∃u,aM w' (Js wb (wb+1) k) (Jr k) u)∧w'.frozen? ⟨Js wb (wb+1) k,Jr k,none⟩=false∧JgI w0 b bs r wb pb (k+1) (w'.setCell ⟨Js wb (wb+1) k,Jr k,none⟩ (.int .i64 x)):=by
 refine⟨⟨pb,0,rfl,?_⟩,?_⟩
 ·exact nZ
 ·refine(sP h.rd (fun e=>zo k e) hB).mono ?_;rintro e w' ⟨rfl,hr,ho⟩;have hr:lq w' r bs b (lB b (k+1)).1 (lB b (k+1)).2:=hr;have hval:(ft b (lB b k).1 (lB b k).2).1=cQ b k:=rfl;rw[hval];obtain⟨a1,a2,a3,a4,a5⟩:=h.n2;have hw:=ho.ak h.wr (show¬wb=r from fun e=>a1 e.symm);have hv:=ho.ak h.ve (show¬wb+1=r from fun e=>a2 e.symm);have hp:=ho.ak h.pl (show¬pb=r from fun e=>a3 e.symm);have lG:af au w0 w':=h.on.aG ho fun q hq=>.inr pn
  obtain⟨n1,n2⟩:=h.n1
  by_cases e5:k=5
  ·subst e5;have j:af (az (wb+1)) w' (w'.setCell ⟨wb+1,0,none⟩ (.int .i64 (cQ b 5:Nat))):=(af.ai (az (wb+1)) w').setCell (p:=⟨wb+1,0,none⟩) (.inl (show az (wb+1) (wb+1)from rfl)) _;exact⟨_,rfl,⟨_,hv.ag rfl⟩,hv.free _,hr.ar j fun q h1 h2 e=>(by have h6:q=wb+1:=e;have:=h.nb;omega),h.nb,j.ak hw (show¬wb=wb+1 by omega),hv.store 0 _,j.ak hp fun e=>a5 (show pb=wb+1 from e).symm,lG.aG j fun q hq=>.inr (by have h6:q=wb+1:=hq;omega),h.n1,h.n2⟩
  ·have eg:Js wb (wb+1) k=wb:=if_neg e5;have eo:Jr k=k:=if_neg e5;rw[eg,eo];have hk5:k<5:=aj;have j:af (az wb) w' (w'.setCell ⟨wb,k,none⟩ (.int .i64 (cQ b k:Nat))):=(af.ai (az wb) w').setCell (p:=⟨wb,k,none⟩) (.inl (show az wb wb from rfl)) _;have hz:=hw.store k (.int .i64 (cQ b k:Nat));rw[PW b hk5]at hz;refine⟨_,rfl,?_,hw.free _,hr.ar j fun q h1 h2 e=>?_,h.nb,hz,?_,j.ak hp fun e=>a4 (show pb=wb from e).symm,lG.aG j fun q hq=>.inr (by have h6:q=wb:=hq;omega),h.n1,h.n2⟩
   ·exact oB
   ·have h6:q=wb:=e;have:=h.nb;omega
   ·have Jt:=j.ak hv (show¬wb+1=wb by omega);rw[if_neg aj]at Jt;rw[if_neg aj];exact Jt
def JnP (sh:Nat→Int)(size:Nat)(b:List Int)(w:World)(e:Ending)(w':World):Prop:=
 ∃tv,e= .returned (.tuple #[.agg (bP (Ar b) tv),.int .i64 (cQ b 5:Nat),.bool (UF sh size b)])∧Row 5 w' tv (bytes (Au size b).1)∧af au w w'∧∀k,aJ tv k→w.heap.size≤k
theorem gu{P:Prop}(h:P:=by
 refine cX 32 fun Kc hK=>?_
 refine wp_store_row 110 _ _ rfl wb (bP jw tv) rfl rfl 110 _ aC.1 aS rfl (HTV jw) ?_;have C7:af (az wb) W6 (W6.setRow wb (bP jw tv)):=(af.ai (az wb) W6).aw (.inl rfl) _;have eC:Box (W6.setRow wb (bP jw tv)) wb 110 (bP jw tv)∧Box (W6.setRow wb (bP jw tv)) vb 3 #[.int .i64 lF]∧Box (W6.setRow wb (bP jw tv)) sb 108 (eK sh db)∧aM (W6.setRow wb (bP jw tv)) r 2 (.bool true):=⟨aC.1.aw _,C7.ak aC.2.1 (show¬vb=wb from l6.1),C7.ak aC.2.2.1 (show¬sb=wb from l6.2.1),C7.cell aC.2.2.2 (show¬r=wb from l6.2.2.1)⟩;have Ti:=aq (af (fun k=>k=wb∨k=vb) W6 (W6.setRow wb (bP jw tv))) (C7.mono fun k hk=>.inl (.inl hk));clear C7;refine dy hK ?_ fun aC=>?_
 ·first|exact j9|exact eC|exact AZ|exact l9
 clear hK;refine cX 33 fun Kc hK=>?_
 have Dw:=aC.2.1.ag (i:=0) rfl;have Ky:=aC.2.1.free 0;go_simp;have C6:af (az vb) (W6.setRow wb (bP jw tv)) ((W6.setRow wb (bP jw tv)).setCell ⟨vb,0,none⟩ (.int .i64 lF)):=(af.ai (az vb) _).setCell (p:=⟨vb,0,none⟩) (.inl (show az vb vb from rfl)) _;have j9:Box ((W6.setRow wb (bP jw tv)).setCell ⟨vb,0,none⟩ (.int .i64 lF)) wb 110 (bP jw tv)∧Box ((W6.setRow wb (bP jw tv)).setCell ⟨vb,0,none⟩ (.int .i64 lF)) vb 3 #[.int .i64 lF]∧Box ((W6.setRow wb (bP jw tv)).setCell ⟨vb,0,none⟩ (.int .i64 lF)) sb 108 (eK sh db)∧aM ((W6.setRow wb (bP jw tv)).setCell ⟨vb,0,none⟩ (.int .i64 lF)) r 2 (.bool true):=⟨C6.ak aC.1 (show¬wb=vb from fun e=>l6.1 e.symm),aC.2.1.store 0 _,C6.ak aC.2.2.1 (show¬sb=vb from l6.2.2.2.1),C6.cell aC.2.2.2 (show¬r=vb from l6.2.2.2.2.2.2)⟩;have zi:=aq (af (fun k=>k=wb∨k=vb) W6 ((W6.setRow wb (bP jw tv)).setCell ⟨vb,0,none⟩ (.int .i64 lF))) (Ti.aG C6 fun k hk=>.inl (.inr hk));clear Dw Ky C6;refine dy hK ?_ fun aC=>?_
 ·first|exact j9|exact eC|exact AZ|exact l9
 clear hK;refine dE ?_;have HX:=ae aC;clear aC eC j9;go_wp2_with fail
 (try simp only[Exit.inBlock,Exit.then])
 refine bodyPost_ret (kH rfl _ _ wb _ (bP jw tv) (0,0) _ ⟨vb,0,none⟩ (.int .i64 lF) rfl HX.1 Tryz.underlying110 rfl aS rfl (lV (HX.2.1.ag rfl))) rfl ?_;exact⟨tv,by rw[YB.out,NR.out,HJE.out,pJ.out];rfl,by rw[HJT.out];exact kK.ar zi (fun k hk (e:k=wb∨k=vb)=>e.elim (N0 k hk).2.1 (N0 k hk).2.2),iu.aG zi (fun k (hk:k=wb∨k=vb)=>.inr (hk.elim (fun e=>by rw[e];exact l6.2.2.2.2.1) fun e=>by rw[e];exact l6.2.2.2.2.2.1)),fun k hk=>(N0 k hk).1⟩):P:=h
theorem jx{P:Prop}(h:P:=by
 intro w hSw;have hq:=hSw.2.2.1.ag (i:=0) (v:=.int .i64 (sh 0)) rfl;clear hSw;go_simp;(try with_reducible rfl)):P:=h
theorem jO{P:Prop}(h:P:=by
 intro w hSw;have hq:=hSw.1.ag (i:=4) (v:=.int .i64 (jw 4)) rfl;clear hSw;go_simp;(try with_reducible rfl)):P:=h
theorem cJ{P:Prop}(h:P:=by
 intro w hSw;have hq:=hSw.2.1.ag (i:=0) (v:=.int .i64 lF) rfl;clear hSw;go_simp;(try with_reducible rfl)):P:=h
theorem eT{P:Prop}(h:P:=by
 intro w hSw;have hq:=hSw.2.2.2;clear hSw;go_simp;(try with_reducible rfl)):P:=h
theorem nV{P:Prop}(h:P:=by
 rw[hf]at Fo;clear Kf hf;go_upto_region 4 with fail;refine gg (fun w':World=>Box w' wb 110 (bP jw tv)∧Box w' vb 3 #[.int .i64 lF]∧Box w' sb 108 (eK sh db)∧aM w' r 2 (.bool true)) 34 ?_ ?_
 ·first|exact j9|exact eC|exact AZ|exact l9
 intro aC;refine aB (i:=0) (v:=.agg (bP jw tv)) aS rfl aS (fun _ _ _ h=>h) (yieldsIf_load_mid (by rfl) 110 _ rfl wb 0 rfl (bP jw tv).toList _ (fun w hw j v hj=>by rw[Nat.zero_add];exact hw.1.ag (by rw[←Array.getElem?_toList];exact hj)) Tryz.underlying110 rfl aS) (by assumption) ?_;refine dU ?_;refine aB (i:=1) (v:=.int .i64 lF) aS rfl aS (fun _ _ _ h=>h) (.inl ⟨by rfl,?_⟩) aC ?_
 ·exact cJ
 refine dU ?_;refine bE [2,3,4] ?_;refine aB (i:=5) (v:=.bool true) aS rfl aS (fun _ _ _ h=>h) (.inl ⟨by rfl,?_⟩) aC ?_
 ·exact eT
 refine dU ?_;refine bE [6,7,8,9] ?_;refine aB (i:=10) (v:=.agg (eu sh)) aS rfl aS (fun _ _ _ h=>h) (yieldsIf_load_mid (by rfl) 74 _ rfl sb 0 rfl (eu sh).toList _ (fun w hw j v hj=>by rw[Nat.zero_add];exact hw.2.2.1.ag (eH hj)) Tryz.underlying74 rfl aS) (by assumption) ?_;refine dU ?_;refine aB (i:=11) (v:=.agg (bP jw tv)) aS rfl aS (fun _ _ _ h=>h) (yieldsIf_load_mid (by rfl) 110 _ rfl wb 0 rfl (bP jw tv).toList _ (fun w hw j v hj=>by rw[Nat.zero_add];exact hw.1.ag (by rw[←Array.getElem?_toList];exact hj)) Tryz.underlying110 rfl aS) (by assumption) ?_;refine dU ?_;refine cX 12 fun Kc hK=>?_
 go_simp;refine(Fo _).mono ?_;rintro e W6 ⟨rfl,fI⟩;have AZ:Box W6 wb 110 (bP jw tv)∧Box W6 vb 3 #[.int .i64 lF]∧Box W6 sb 108 (eK sh db)∧aM W6 r 2 (.bool true):=⟨fI.ak l9.1 id,fI.ak l9.2.1 id,fI.ak l9.2.2.1 id,fI.cell l9.2.2.2 id⟩;have iu:=ae<|ek.trans fI;have kK:=ae<|fY.ar fI fun _ _=>id;clear fI;refine dy hK ?_ fun aC=>?_
 ·first|exact j9|exact eC|exact AZ|exact l9
 clear hK;refine bE [13,14,15] ?_;refine aB (i:=16) (v:=.int .i64 (jw 4)) aS rfl aS (fun _ _ _ h=>h) (.inl ⟨by rfl,?_⟩) aC ?_
 ·exact jO
 refine dU ?_;refine bE [17,18,19,20] ?_;refine aB (i:=21) (v:=.int .i64 (sh 0)) aS rfl aS (fun _ _ _ h=>h) (.inl ⟨by rfl,?_⟩) aC ?_
 ·exact jx
 refine dU ?_;refine bE [22,23,24] ?_;refine aB (i:=25) (v:=.int .i64 lF) aS rfl aS (fun _ _ _ h=>h) (.inl ⟨by rfl,?_⟩) aC ?_
 ·exact cJ
 refine dU ?_;refine bE [26,27,28] ?_;refine aB (i:=29) (v:=.int .i64 lF) aS rfl aS (fun _ _ _ h=>h) (.inl ⟨by rfl,?_⟩) aC ?_
 ·exact cJ
 refine dU ?_;refine bE [30,31] ?_;exact gu):P:=h
theorem Cw {size:Nat}(hsz:sh 1=size)(h:bX w sb db lb V sh d):Calls Tryz.prog 57 #[.pointer (some ⟨sb,0,none⟩)] w (JnP sh size (d.sec 0) w):=by
 have HH:=ae h;have yX:=ae<|h.tX 0;have abb:=ae hsz;have Xf:=aq (size≤16) (by have:=h.sd.s1;omega);clear h hsz
 go_enter Tryz.func57,Tryz.ntmps57
 go_upto_region 1 with fail;have l8:=(af.ai au w).alloc (.cells #[.int .i64 0,.int .i64 0,.int .i64 0,.int .i64 0,.int .i64 0,.slice none 0 0] 110);have b1:=Box.fresh w 110 #[.int .i64 0,.int .i64 0,.int .i64 0,.int .i64 0,.int .i64 0,.slice none 0 0];have s9:=(af.ai au (w.alloc (.cells #[.int .i64 0,.int .i64 0,.int .i64 0,.int .i64 0,.int .i64 0,.slice none 0 0] 110))).alloc (.cells #[.int .i64 0] 3);have b2:=Box.fresh (w.alloc (.cells #[.int .i64 0,.int .i64 0,.int .i64 0,.int .i64 0,.int .i64 0,.slice none 0 0] 110)) 3 #[.int .i64 0];rw[show(w.alloc (.cells #[.int .i64 0,.int .i64 0,.int .i64 0,.int .i64 0,.int .i64 0,.slice none 0 0] 110)).heap.size=w.heap.size+1 by simp]at b2;have HW:=ae<|s9.ak b1 id;have HV:=ae b2;have HO:=ae<|l8.trans s9;have lh:=ae (show((w.alloc (.cells #[.int .i64 0,.int .i64 0,.int .i64 0,.int .i64 0,.int .i64 0,.slice none 0 0] 110)).alloc (.cells #[.int .i64 0] 3)).heap.size=w.heap.size+2 by simp);change Code.wp _ _ _ _ ((w.alloc (.cells #[.int .i64 0,.int .i64 0,.int .i64 0,.int .i64 0,.int .i64 0,.slice none 0 0] 110)).alloc (.cells #[.int .i64 0] 3));clear l8 s9 b1 b2;generalize(w.alloc (.cells #[.int .i64 0,.int .i64 0,.int .i64 0,.int .i64 0,.int .i64 0,.slice none 0 0] 110)).alloc (.cells #[.int .i64 0] 3)=W1 at *;obtain⟨wb,Db⟩:∃wb,wb=w.heap.size:=⟨_,rfl⟩;have rf:=ae Db;rw[←Db]at HW HV lh ⊢;clear Db;have HR:=ae<|sO (by decide:0<64) (HH.keep HO).ak (HH.keep HO).lH;generalize d.sec 0=b at *;go_upto_region 2 with(go_at_call 85;refine HR.mono ?_;rintro e W2 ⟨r,rfl,kJ,bq⟩);have fX:=ae kJ;have bu:=ae<|HO.trans bq;have Xc:=ae<|bq.ak HW id;have uW:=ae<|bq.ak HV id;have Ss:=ae (show W1.heap.size≤r∧r<W2.heap.size by obtain⟨_,_,h1,_,_,h4⟩:=kJ;exact⟨h4,h1.lt⟩);clear kJ bq HR HW HV HO;go_wp2_with fail;have J4:=(af.ai au W2).alloc (.cells #[.pointer (some ⟨wb,0,none⟩),.pointer (some ⟨wb,1,none⟩),.pointer (some ⟨wb,2,none⟩),.pointer (some ⟨wb,3,none⟩),.pointer (some ⟨wb,4,none⟩),.pointer (some ⟨wb+1,0,none⟩)] 162);have b3:=Box.fresh W2 162 #[.pointer (some ⟨wb,0,none⟩),.pointer (some ⟨wb,1,none⟩),.pointer (some ⟨wb,2,none⟩),.pointer (some ⟨wb,3,none⟩),.pointer (some ⟨wb,4,none⟩),.pointer (some ⟨wb+1,0,none⟩)];have Z5:=Xc.lt;have Jt:=uW.lt;have HJ:=ae (show JgI w b W1.heap.size r wb W2.heap.size 0 (W2.alloc (.cells #[.pointer (some ⟨wb,0,none⟩),.pointer (some ⟨wb,1,none⟩),.pointer (some ⟨wb,2,none⟩),.pointer (some ⟨wb,3,none⟩),.pointer (some ⟨wb,4,none⟩),.pointer (some ⟨wb+1,0,none⟩)] 162))from
  {rd:=fX.ar J4 fun _ _ _=>id,nb:=by have h1:=lh.out;have h2:=rf.out;omega,wr:=J4.ak Xc id,ve:=J4.ak uW id,pl:=b3,on:=bu.trans J4,n1:=by have h2:=rf.out;have h3:=bu.size;omega,n2:=by have h1:=lh.out;have h2:=Ss.out;omega})
 clear J4 b3 Z5 Jt;generalize W2.alloc (.cells #[.pointer (some ⟨wb,0,none⟩),.pointer (some ⟨wb,1,none⟩),.pointer (some ⟨wb,2,none⟩),.pointer (some ⟨wb,3,none⟩),.pointer (some ⟨wb,4,none⟩),.pointer (some ⟨wb+1,0,none⟩)] 162)=W3 at *;have Dt:=ae<|vJ r 6 6 (some ⟨W2.heap.size,0,none⟩) (Js wb (wb+1)) Jr (JgI w b W1.heap.size r wb W2.heap.size) W3 aE HJ fun k W hk hj=>PU yX hk hj;refine Dt.mono ?_;rintro e W4 ⟨rfl,Jy⟩;have vi:=ae Jy;have HT:=ae<|xZ size Jy.rd (fun e=>zo 6 e) yX;have JX:aF W4 sb 1 size:=by rw[←abb.out];exact Jy.on.cell (fj HH).2.1 id
 clear Jy Dt HJ;go_upto_region 4 with(go_at_call 88;refine HT.mono ?_;rintro e J6 ⟨tv,rfl,gY,E4,fz,U0⟩;obtain⟨At,ct,et,_,_⟩:=gY.shape;subst et;rw[b7]at gY U0;have Fz:=ae gY;have AH:=ae E4;have GN:=ae fz;have OS:=ae U0;have U5:aM J6 wb 5 (.slice none 0 0):=(fz.ak vi.wr (show¬wb=r from fun e=>vi.n2.1 e.symm)).ag rfl;have UW:J6.frozen? ⟨wb,5,none⟩=false:=(fz.ak vi.wr (show¬wb=r from fun e=>vi.n2.1 e.symm)).free _;clear gY E4 fz U0 JX);have HXW:=ae<|GN.ak vi.wr (show¬wb=r from fun e=>vi.n2.1 e.symm);have HXV:=ae<|GN.ak vi.ve (show¬wb+1=r from fun e=>vi.n2.2.1 e.symm);have HWL:=aq (w.heap.size≤W4.heap.size∧wb+1<W4.heap.size) (⟨vi.on.size,vi.ve.lt⟩);have HRJ:=ae (show w.heap.size≤r∧r<W4.heap.size by obtain⟨_,_,h5,_,_,h6⟩:=vi.rd;have:=vi.nb;exact⟨aj,h5.lt⟩);have Th:=ae<|vi.on.aG GN fun q hq=>.inr (by have h6:q=r:=hq;have:=HRJ.out;omega);have HNR:=aq (r≠wb∧r≠wb+1) (⟨vi.n2.1,vi.n2.2.1⟩);have J9:=aq (sb<wb) (by have h1:=HH.ak.lt;have h2:=rf.out;omega);have Yp:=ae<|(HH.keep Th).ak;have HK:=aq ((kM size b (lB b 6).1 (lB b 6).2)=Au size b) (rfl)
 try rw[b7]
 generalize(kM size b (lB b 6).1 (lB b 6).2).1.length=nt at *;rw[HK.out]at Fz AH;clear vi GN HT HK U5 UW;obtain⟨tv,htv⟩:∃tv:Value,tv= .slice At nt ct:=⟨_,rfl⟩;have HTV:=aq (∀jw:Nat→Int,((bP jw tv).all fun x=>x.oneCell')=true) (by intro jw;rw[htv];simp[bP,Value.oneCell']);have Fo:=ae<|fun w=>Cc (sh:=sh) (wr:=Ar b) At nt ct w;rw[←htv]at Fo Fz OS ⊢;clear htv;have j5:af (az wb) J6 (J6.setCell ⟨wb,5,none⟩ tv):=(af.ai (az wb) J6).setCell (p:=⟨wb,5,none⟩) (.inl (show az wb wb from rfl)) _;have HW5:=aq (Box (J6.setCell ⟨wb,5,none⟩ tv) wb 110 (bP (Ar b) tv)) (by
  have:=HXW.store 5 tv;rw[PV]at this;exact this)
 have rz:=aq (Box (J6.setCell ⟨wb,5,none⟩ tv) (wb+1) 3 #[.int .i64 (cQ b 5:Nat)]) (j5.ak HXV (show¬wb+1=wb by omega));have Yo:=ae<|j5.ak Yp (fun e=>by have h:=J9.out;have e:sb=wb:=e;omega);have Yr:=aq (Row 5 (J6.setCell ⟨wb,5,none⟩ tv) tv (bytes (Au size b).1)) (Fz.ar j5 fun k hk e=>by have h1:=OS.out k hk;have h2:=HWL.out;have e:k=wb:=e;omega);have HRO:=aq (aM (J6.setCell ⟨wb,5,none⟩ tv) r 2 (.bool (Au size b).2)) (by
  obtain⟨p',A',c',hx,_⟩:=AH.out;exact(j5.ak hx HNR.1).ag rfl)
 have OL:=ae<|Th.aG j5 fun k hk=>.inr jQ;have N0:=aq (∀k,aJ tv k→w.heap.size≤k∧k≠wb∧k≠wb+1) (fun k hk=>by have h1:=OS.out k hk;have h2:=HWL.out;omega);have l6:=aq (wb+1≠wb∧sb≠wb∧r≠wb∧sb≠wb+1∧w.heap.size≤wb∧w.heap.size≤wb+1∧r≠wb+1) (by have h1:=J9.out;have h2:=HNR.out;have h3:=rf.out;omega);clear j5 HXW HXV Fz AH OS Yp Th;change Code.wp _ _ _ _ (J6.setCell ⟨wb,5,none⟩ tv);generalize J6.setCell ⟨wb,5,none⟩ tv=W5 at *;have ek:=aq (af au w W5.drew) (OL.drew);have fY:=aq (Row 5 W5.drew tv (bytes (Au size b).1)) (Yr.ar ((af.ai au W5).drew) fun _ _=>id);have Kf:=aq (UF sh size b=((Au size b).2&&iT sh (Ar b)&&decide (Ar b 4<sh 0)&&decide (1≤cQ b 5)&&decide (cQ b 5≤1000))) (rfl);have l9:=aq (Box W5.drew wb 110 (bP (Ar b) tv)∧Box W5.drew (wb+1) 3 #[.int .i64 (cQ b 5:Nat)]∧Box W5.drew sb 108 (eK sh db)∧aM W5.drew r 2 (.bool (Au size b).2)) (⟨HW5,rz,Yo,HRO⟩);clear HW5 rz Yo HRO Yr OL HWL HRJ HNR J9;unfold JnP;generalize hjb:UF sh size b=jb at *;have HJE:=ae hjb;clear hjb;generalize hjw:Ar b=jw at *;have YB:=ae hjw;clear hjw;generalize XS:((cQ b 5:Nat):Int)=lF at *;have NR:=ae XS;clear XS;generalize wb+1=vb at *;generalize hjt:Au size b=jt at *;obtain⟨tt,ok⟩:=jt;have HJT:=ae hjt;clear hjt;dsimp only at *
 cases ok with
 |false=>
  have pJ:=aq (jb=false) (by rw[Kf.out];rfl);clear Kf;go_upto_region 4 with fail;refine gg (fun w':World=>Box w' wb 110 (bP jw tv)∧Box w' vb 3 #[.int .i64 lF]∧Box w' sb 108 (eK sh db)∧aM w' r 2 (.bool false)) 34 ?_ ?_
  ·first|exact j9|exact eC|exact AZ|exact l9
  intro aC;refine aB (i:=0) (v:=.agg (bP jw tv)) aS rfl aS (fun _ _ _ h=>h) (yieldsIf_load_mid (by rfl) 110 _ rfl wb 0 rfl (bP jw tv).toList _ (fun w hw j v hj=>by rw[Nat.zero_add];exact hw.1.ag (by rw[←Array.getElem?_toList];exact hj)) Tryz.underlying110 rfl aS) (by assumption) ?_;refine dU ?_;refine aB (i:=1) (v:=.int .i64 lF) aS rfl aS (fun _ _ _ h=>h) (.inl ⟨by rfl,?_⟩) aC ?_
  ·exact cJ
  refine dU ?_;refine bE [2,3,4] ?_;refine aB (i:=5) (v:=.bool false) aS rfl aS (fun _ _ _ h=>h) (.inl ⟨by rfl,?_⟩) aC ?_
  ·exact eT
  refine dU ?_;refine Dk [6,7,8,9,10,11] ?_;refine cX 12 fun Kc hK=>?_
  rw[if_neg pq];refine dy hK ?_ fun aC=>?_
  ·first|exact j9|exact eC|exact AZ|exact l9
  clear hK;refine Dk [13,14,15,16,17,18,19,20,21,22,23,24,25,26,27,28,29,30,31] ?_;refine cX 32 fun Kc hK=>?_
  refine wp_store_row 110 _ _ rfl wb (bP jw tv) rfl rfl 110 _ aC.1 aS rfl (HTV jw) ?_;have C7:af (az wb) W5.drew (W5.drew.setRow wb (bP jw tv)):=(af.ai (az wb) W5.drew).aw (.inl rfl) _;have eC:Box (W5.drew.setRow wb (bP jw tv)) wb 110 (bP jw tv)∧Box (W5.drew.setRow wb (bP jw tv)) vb 3 #[.int .i64 lF]∧Box (W5.drew.setRow wb (bP jw tv)) sb 108 (eK sh db)∧aM (W5.drew.setRow wb (bP jw tv)) r 2 (.bool false):=⟨aC.1.aw _,C7.ak aC.2.1 (show¬vb=wb from l6.1),C7.ak aC.2.2.1 (show¬sb=wb from l6.2.1),C7.cell aC.2.2.2 (show¬r=wb from l6.2.2.1)⟩;have Ti:=aq (af (fun k=>k=wb∨k=vb) W5.drew (W5.drew.setRow wb (bP jw tv))) (C7.mono fun k hk=>.inl (.inl hk));clear C7;refine dy hK ?_ fun aC=>?_
  ·first|exact j9|exact eC|exact AZ|exact l9
  clear hK;refine cX 33 fun Kc hK=>?_
  have Dw:=aC.2.1.ag (i:=0) rfl;have Ky:=aC.2.1.free 0;go_simp;have C6:af (az vb) (W5.drew.setRow wb (bP jw tv)) ((W5.drew.setRow wb (bP jw tv)).setCell ⟨vb,0,none⟩ (.int .i64 lF)):=(af.ai (az vb) _).setCell (p:=⟨vb,0,none⟩) (.inl (show az vb vb from rfl)) _;have j9:Box ((W5.drew.setRow wb (bP jw tv)).setCell ⟨vb,0,none⟩ (.int .i64 lF)) wb 110 (bP jw tv)∧Box ((W5.drew.setRow wb (bP jw tv)).setCell ⟨vb,0,none⟩ (.int .i64 lF)) vb 3 #[.int .i64 lF]∧Box ((W5.drew.setRow wb (bP jw tv)).setCell ⟨vb,0,none⟩ (.int .i64 lF)) sb 108 (eK sh db)∧aM ((W5.drew.setRow wb (bP jw tv)).setCell ⟨vb,0,none⟩ (.int .i64 lF)) r 2 (.bool false):=⟨C6.ak aC.1 (show¬wb=vb from fun e=>l6.1 e.symm),aC.2.1.store 0 _,C6.ak aC.2.2.1 (show¬sb=vb from l6.2.2.2.1),C6.cell aC.2.2.2 (show¬r=vb from l6.2.2.2.2.2.2)⟩;have zi:=aq (af (fun k=>k=wb∨k=vb) W5.drew ((W5.drew.setRow wb (bP jw tv)).setCell ⟨vb,0,none⟩ (.int .i64 lF))) (Ti.aG C6 fun k hk=>.inl (.inr hk));clear Dw Ky C6;refine dy hK ?_ fun aC=>?_
  ·first|exact j9|exact eC|exact AZ|exact l9
  clear hK;refine dE ?_;have HX:=ae aC;clear aC eC j9;go_wp2_with fail
  (try simp only[Exit.inBlock,Exit.then])
  refine bodyPost_ret (kH rfl _ _ wb _ (bP jw tv) (0,0) _ ⟨vb,0,none⟩ (.int .i64 lF) rfl HX.1 Tryz.underlying110 rfl aS rfl (lV (HX.2.1.ag rfl))) rfl ?_;exact⟨tv,by rw[YB.out,NR.out,HJE.out,pJ.out];rfl,by rw[HJT.out];exact fY.ar zi (fun k hk (e:k=wb∨k=vb)=>e.elim (N0 k hk).2.1 (N0 k hk).2.2),ek.aG zi (fun k (hk:k=wb∨k=vb)=>.inr (hk.elim (fun e=>by rw[e];exact l6.2.2.2.2.1) fun e=>by rw[e];exact l6.2.2.2.2.2.1)),fun k hk=>(N0 k hk).1⟩
 |true=>
  by_cases hf:iT sh jw=true
  ·by_cases h4:jw 4<sh 0
   ·by_cases h1:1≤lF
    ·have WL:lF≥1:=h1
     by_cases h2:lF≤1000
     ·have pJ:=aq (jb=true) (by rw[Kf.out,hf,decide_eq_true h4,decide_eq_true (show 1≤cQ b 5 by have:=NR.out;omega),decide_eq_true (show cQ b 5≤1000 by have:=NR.out;omega)];rfl);exact nV
     ·have pJ:=aq (jb=false) (by rw[Kf.out,decide_eq_false (show¬cQ b 5≤1000 by have:=NR.out;omega),Bool.and_false]);exact nV
    ·have pJ:=aq (jb=false) (by rw[Kf.out,decide_eq_false (show¬1≤cQ b 5 by have:=NR.out;omega),Bool.and_false,Bool.false_and]);have WL:¬lF≥1:=h1;rw[hf]at Fo;clear Kf hf;go_upto_region 4 with fail;refine gg (fun w':World=>Box w' wb 110 (bP jw tv)∧Box w' vb 3 #[.int .i64 lF]∧Box w' sb 108 (eK sh db)∧aM w' r 2 (.bool true)) 34 ?_ ?_
     ·first|exact j9|exact eC|exact AZ|exact l9
     intro aC;refine aB (i:=0) (v:=.agg (bP jw tv)) aS rfl aS (fun _ _ _ h=>h) (yieldsIf_load_mid (by rfl) 110 _ rfl wb 0 rfl (bP jw tv).toList _ (fun w hw j v hj=>by rw[Nat.zero_add];exact hw.1.ag (by rw[←Array.getElem?_toList];exact hj)) Tryz.underlying110 rfl aS) (by assumption) ?_;refine dU ?_;refine aB (i:=1) (v:=.int .i64 lF) aS rfl aS (fun _ _ _ h=>h) (.inl ⟨by rfl,?_⟩) aC ?_
     ·exact cJ
     refine dU ?_;refine bE [2,3,4] ?_;refine aB (i:=5) (v:=.bool true) aS rfl aS (fun _ _ _ h=>h) (.inl ⟨by rfl,?_⟩) aC ?_
     ·exact eT
     refine dU ?_;refine bE [6,7,8,9] ?_;refine aB (i:=10) (v:=.agg (eu sh)) aS rfl aS (fun _ _ _ h=>h) (yieldsIf_load_mid (by rfl) 74 _ rfl sb 0 rfl (eu sh).toList _ (fun w hw j v hj=>by rw[Nat.zero_add];exact hw.2.2.1.ag (eH hj)) Tryz.underlying74 rfl aS) (by assumption) ?_;refine dU ?_;refine aB (i:=11) (v:=.agg (bP jw tv)) aS rfl aS (fun _ _ _ h=>h) (yieldsIf_load_mid (by rfl) 110 _ rfl wb 0 rfl (bP jw tv).toList _ (fun w hw j v hj=>by rw[Nat.zero_add];exact hw.1.ag (by rw[←Array.getElem?_toList];exact hj)) Tryz.underlying110 rfl aS) (by assumption) ?_;refine dU ?_;refine cX 12 fun Kc hK=>?_
     go_simp;refine(Fo _).mono ?_;rintro e W6 ⟨rfl,fI⟩;have AZ:Box W6 wb 110 (bP jw tv)∧Box W6 vb 3 #[.int .i64 lF]∧Box W6 sb 108 (eK sh db)∧aM W6 r 2 (.bool true):=⟨fI.ak l9.1 id,fI.ak l9.2.1 id,fI.ak l9.2.2.1 id,fI.cell l9.2.2.2 id⟩;have iu:=ae<|ek.trans fI;have kK:=ae<|fY.ar fI fun _ _=>id;clear fI;refine dy hK ?_ fun aC=>?_
     ·first|exact j9|exact eC|exact AZ|exact l9
     clear hK;refine bE [13,14,15] ?_;refine aB (i:=16) (v:=.int .i64 (jw 4)) aS rfl aS (fun _ _ _ h=>h) (.inl ⟨by rfl,?_⟩) aC ?_
     ·exact jO
     refine dU ?_;refine bE [17,18,19,20] ?_;refine aB (i:=21) (v:=.int .i64 (sh 0)) aS rfl aS (fun _ _ _ h=>h) (.inl ⟨by rfl,?_⟩) aC ?_
     ·exact jx
     refine dU ?_;refine bE [22,23,24] ?_;refine aB (i:=25) (v:=.int .i64 lF) aS rfl aS (fun _ _ _ h=>h) (.inl ⟨by rfl,?_⟩) aC ?_
     ·exact cJ
     refine dU ?_;refine Dk [26,27,28,29,30,31] ?_;exact gu
   ·have pJ:=aq (jb=false) (by rw[Kf.out,decide_eq_false h4,Bool.and_false,Bool.false_and,Bool.false_and]);rw[hf]at Fo;clear Kf hf;go_upto_region 4 with fail;refine gg (fun w':World=>Box w' wb 110 (bP jw tv)∧Box w' vb 3 #[.int .i64 lF]∧Box w' sb 108 (eK sh db)∧aM w' r 2 (.bool true)) 34 ?_ ?_
    ·first|exact j9|exact eC|exact AZ|exact l9
    intro aC;refine aB (i:=0) (v:=.agg (bP jw tv)) aS rfl aS (fun _ _ _ h=>h) (yieldsIf_load_mid (by rfl) 110 _ rfl wb 0 rfl (bP jw tv).toList _ (fun w hw j v hj=>by rw[Nat.zero_add];exact hw.1.ag (by rw[←Array.getElem?_toList];exact hj)) Tryz.underlying110 rfl aS) (by assumption) ?_;refine dU ?_;refine aB (i:=1) (v:=.int .i64 lF) aS rfl aS (fun _ _ _ h=>h) (.inl ⟨by rfl,?_⟩) aC ?_
    ·exact cJ
    refine dU ?_;refine bE [2,3,4] ?_;refine aB (i:=5) (v:=.bool true) aS rfl aS (fun _ _ _ h=>h) (.inl ⟨by rfl,?_⟩) aC ?_
    ·exact eT
    refine dU ?_;refine bE [6,7,8,9] ?_;refine aB (i:=10) (v:=.agg (eu sh)) aS rfl aS (fun _ _ _ h=>h) (yieldsIf_load_mid (by rfl) 74 _ rfl sb 0 rfl (eu sh).toList _ (fun w hw j v hj=>by rw[Nat.zero_add];exact hw.2.2.1.ag (eH hj)) Tryz.underlying74 rfl aS) (by assumption) ?_;refine dU ?_;refine aB (i:=11) (v:=.agg (bP jw tv)) aS rfl aS (fun _ _ _ h=>h) (yieldsIf_load_mid (by rfl) 110 _ rfl wb 0 rfl (bP jw tv).toList _ (fun w hw j v hj=>by rw[Nat.zero_add];exact hw.1.ag (by rw[←Array.getElem?_toList];exact hj)) Tryz.underlying110 rfl aS) (by assumption) ?_;refine dU ?_;refine cX 12 fun Kc hK=>?_
    go_simp;refine(Fo _).mono ?_;rintro e W6 ⟨rfl,fI⟩;have AZ:Box W6 wb 110 (bP jw tv)∧Box W6 vb 3 #[.int .i64 lF]∧Box W6 sb 108 (eK sh db)∧aM W6 r 2 (.bool true):=⟨fI.ak l9.1 id,fI.ak l9.2.1 id,fI.ak l9.2.2.1 id,fI.cell l9.2.2.2 id⟩;have iu:=ae<|ek.trans fI;have kK:=ae<|fY.ar fI fun _ _=>id;clear fI;refine dy hK ?_ fun aC=>?_
    ·first|exact j9|exact eC|exact AZ|exact l9
    clear hK;refine bE [13,14,15] ?_;refine aB (i:=16) (v:=.int .i64 (jw 4)) aS rfl aS (fun _ _ _ h=>h) (.inl ⟨by rfl,?_⟩) aC ?_
    ·exact jO
    refine dU ?_;refine bE [17,18,19,20] ?_;refine aB (i:=21) (v:=.int .i64 (sh 0)) aS rfl aS (fun _ _ _ h=>h) (.inl ⟨by rfl,?_⟩) aC ?_
    ·exact jx
    refine dU ?_;refine Dk [22,23,24,25,26,27,28,29,30,31] ?_;exact gu
  ·have hf:iT sh jw=false:=by simpa using hf
   have pJ:=aq (jb=false) (by rw[Kf.out,hf,Bool.and_false,Bool.false_and,Bool.false_and,Bool.false_and]);rw[hf]at Fo;clear Kf hf;go_upto_region 4 with fail;refine gg (fun w':World=>Box w' wb 110 (bP jw tv)∧Box w' vb 3 #[.int .i64 lF]∧Box w' sb 108 (eK sh db)∧aM w' r 2 (.bool true)) 34 ?_ ?_
   ·first|exact j9|exact eC|exact AZ|exact l9
   intro aC;refine aB (i:=0) (v:=.agg (bP jw tv)) aS rfl aS (fun _ _ _ h=>h) (yieldsIf_load_mid (by rfl) 110 _ rfl wb 0 rfl (bP jw tv).toList _ (fun w hw j v hj=>by rw[Nat.zero_add];exact hw.1.ag (by rw[←Array.getElem?_toList];exact hj)) Tryz.underlying110 rfl aS) (by assumption) ?_;refine dU ?_;refine aB (i:=1) (v:=.int .i64 lF) aS rfl aS (fun _ _ _ h=>h) (.inl ⟨by rfl,?_⟩) aC ?_
   ·exact cJ
   refine dU ?_;refine bE [2,3,4] ?_;refine aB (i:=5) (v:=.bool true) aS rfl aS (fun _ _ _ h=>h) (.inl ⟨by rfl,?_⟩) aC ?_
   ·exact eT
   refine dU ?_;refine bE [6,7,8,9] ?_;refine aB (i:=10) (v:=.agg (eu sh)) aS rfl aS (fun _ _ _ h=>h) (yieldsIf_load_mid (by rfl) 74 _ rfl sb 0 rfl (eu sh).toList _ (fun w hw j v hj=>by rw[Nat.zero_add];exact hw.2.2.1.ag (eH hj)) Tryz.underlying74 rfl aS) (by assumption) ?_;refine dU ?_;refine aB (i:=11) (v:=.agg (bP jw tv)) aS rfl aS (fun _ _ _ h=>h) (yieldsIf_load_mid (by rfl) 110 _ rfl wb 0 rfl (bP jw tv).toList _ (fun w hw j v hj=>by rw[Nat.zero_add];exact hw.1.ag (by rw[←Array.getElem?_toList];exact hj)) Tryz.underlying110 rfl aS) (by assumption) ?_;refine dU ?_;refine cX 12 fun Kc hK=>?_
   go_simp;refine(Fo _).mono ?_;rintro e W6 ⟨rfl,fI⟩;have AZ:Box W6 wb 110 (bP jw tv)∧Box W6 vb 3 #[.int .i64 lF]∧Box W6 sb 108 (eK sh db)∧aM W6 r 2 (.bool true):=⟨fI.ak l9.1 id,fI.ak l9.2.1 id,fI.ak l9.2.2.1 id,fI.cell l9.2.2.2 id⟩;have iu:=ae<|ek.trans fI;have kK:=ae<|fY.ar fI fun _ _=>id;clear fI;refine dy hK ?_ fun aC=>?_
   ·first|exact j9|exact eC|exact AZ|exact l9
   clear hK;refine Dk [13,14,15,16,17,18,19,20,21,22,23,24,25,26,27,28,29,30,31] ?_;exact gu
end
end Go.Proofs.YtpcfhbeakecihaaGreat

/- Lemmas. -/
import Derived.Test.YtpcfhbeakecihaaGreatM3
import Derived.Test.YtpcfhbeakecihaaGreatM33
set_option linter.all false
set_option maxHeartbeats 20000000
set_option maxRecDepth 100000
namespace Go.Proofs.YtpcfhbeakecihaaGreat
open Go.ChangeShapes Go.RowKit Go.WideShapes
def dG (b:List Int)(p:Nat)(ok:Bool):Nat×Nat×Bool:=if ok=true then((bK b p 0).1,(bK b p 0).2.1,(bK b p 0).2.2==0)else(0,p,false)
def lz (size:Nat)(b:List Int)(p:Nat)(ok:Bool):List Int×Bool:=
 if ok=true then match de size b p with| .ok (t,j)=>(t,((t.length:Int)==(size:Int))&&((j:Int)==(b.length:Int)))| .error _=>([],false)else([],false)
def jf (w:World)(r base:Nat)(b:List Int)(p:Nat)(ok:Bool):Prop:=
 ∃A cp,Box w r 165 #[.slice A b.length cp,.int .i64 (p:Nat),.bool ok]∧b8 w (.slice A b.length cp) b∧(∀k,aJ (.slice A b.length cp) k→base≤k∧k≠r∧k<w.heap.size)∧base≤r
theorem jf.ao {w w':World}{r base:Nat}{b:List Int}{p:Nat}{ok:Bool}{S:Nat→Prop}(h:jf w r base b p ok)(ho:af S w w')(hS:∀k,base≤k→k<w.heap.size→¬S k):jf w' r base b p ok:=by
 obtain⟨A,cp,h1,h2,h3,h4⟩:=h;exact⟨A,cp,ho.az h1 (hS r h4 h1.lt),h2.ao ho fun k hk=>hS k (h3 k hk).1 (h3 k hk).2.2,fun k hk=>⟨(h3 k hk).1,(h3 k hk).2.1,Nat.lt_of_lt_of_le (h3 k hk).2.2 ho.size⟩,h4⟩
def p7 (sh:Nat→Int)(db:Nat):Array Value:=#[.int .i64 (sh 0),.int .i64 (sh 1),.int .i64 (sh 2),.int .i64 (sh 3),.pointer (some ⟨db,0,none⟩)]
section
theorem oE {w:World}{db lb:Nat}{V:Nat→Value}{d:dH}{sb:Nat}{sh:Nat→Int}{at_:Nat}(hi:at_<64)(hs:Box w sb 108 (p7 sh db))(h:dI w db lb V d):
 Calls Tryz.prog 85 #[.pointer (some ⟨sb,0,none⟩),.int .i64 at_] w fun e w'=>∃r,e= .returned (.pointer (some ⟨r,0,none⟩))∧jf w' r w.heap.size (d.sec at_) 0 true∧af aA w w':=by
 have x4:ba w sb 4 (.pointer (some ⟨db,0,none⟩)):=hs.ag rfl;have HR:=ae<|vE hi h;have Iq:=ae<|h.small at_ hi;clear hs h;generalize d.sec at_=b at *
 go_enter Tryz.func85,Tryz.ntmps85
 go_upto_region 2 with(go_at_call 115;refine HR.mono ?_;rintro e W1 ⟨v,rfl,hr,ho,hk⟩;obtain⟨A,cp,hv,Fu,Kn⟩:=hr.shape;rw[cE]at hv Fu;subst hv;have zi:=ae hr;have HO:=ae ho;have HK:=ae hk;clear hr ho hk Fu Kn);go_wp2_with fail;go_ret;have al:=(af.ak aA W1).alloc (.cells #[.slice A b.length cp,.int .i64 0,.bool true] 165);have eE:=zi.nR (by have:=Iq.out;omega);exact⟨W1.heap.size,rfl,⟨A,cp,Box.fresh W1 _ _,eE.ao al fun _ _=>id,fun k hk=>⟨HK k hk,by have:=zi.lt hk;omega,by have:=zi.lt hk;have:=al.size;omega⟩,HO.size⟩,HO.trans al⟩
theorem oF {w:World}{r base:Nat}{b:List Int}{p:Nat}{ok:Bool}(h:jf w r base b p ok)(hp:ok=true→p≤b.length)(hb:sm b):
 Calls Tryz.prog 87 #[.pointer (some ⟨r,0,none⟩)] w fun e w'=>e= .returned (.int .i64 ((dG b p ok).1:Nat))∧jf w' r base b (dG b p ok).2.1 (dG b p ok).2.2∧af (aM r) w w':=by
 obtain⟨A,cp,h1,h2,h3,h4⟩:=h;have H1:=ae h1;have H2:=ae h2;have H3:=ae h3;have H4:=ae h4
 cases ok with
 |true=>
  have HG:=ae<|fun n=>iQ A b.length cp b p (w.drewN n) (h2.ao ((af.ak aA w).drewN n) fun _ _=>id) (hp rfl) (kI hb p);rw[wh]at HG;have HN:=aH (dG b p true=((bK b p 0).1,(bK b p 0).2.1,(bK b p 0).2.2==0)) (rfl);rw[HN.out];clear HN;have x0:ba w r 0 (.slice A b.length cp):=h1.ag rfl;have x1:aF w r 1 (p:Nat):=h1.ag rfl;have x2:ba w r 2 (.bool true):=h1.ag rfl;have g1:w.frozen? ⟨r,1,none⟩=false:=h1.free 1;have g2:w.frozen? ⟨r,2,none⟩=false:=h1.free 2;clear h1 h2 h3 h4 hp hb;generalize(bK b p 0).1=n1 at *;generalize(bK b p 0).2.1=p1 at *;generalize(bK b p 0).2.2=e1 at *
  go_enter Tryz.func87,Tryz.ntmps87
  go_wp2_with fail
  go_quiet ((go_at_call 116;exact dK (HG _)))
  go_wp2;go_ret;have j:af (aM r) w (((w.drewN nq).setCell ⟨r,1,none⟩ (.int .i64 (p1:Nat))).setCell ⟨r,2,none⟩ (.bool (e1==0))):=(((af.ak (aM r) w).drewN nq).setCell (p:=⟨r,1,none⟩) (.inl rfl) _).setCell (p:=⟨r,2,none⟩) (.inl rfl) _;exact⟨rfl,⟨A,cp,((H1.drewN nq).store 1 _).store 2 _,H2.ao j fun k hk e=>(H3 k hk).2.1 e,fun k hk=>⟨(H3 k hk).1,(H3 k hk).2.1,Nat.lt_of_lt_of_le (H3 k hk).2.2 j.size⟩,H4⟩,j⟩
 |false=>
  have x2:ba w r 2 (.bool false):=h1.ag rfl;have HN:=aH (dG b p false=(0,p,false)) (rfl);rw[HN.out];clear HN h1 h2 h3 h4 hp hb
  go_enter Tryz.func87,Tryz.ntmps87
  go_wp2_with fail;go_ret;exact⟨rfl,⟨A,cp,H1,H2,H3,H4⟩,af.ak _ _⟩
def ng (w:World)(r base:Nat)(t:List Int)(b:List Int)(p:Nat)(ok:Bool)(e:Ending)(w':World):Prop:=
 ∃v,e= .returned v∧Row 5 w' v (bytes t)∧(∃p',jf w' r base b p' ok)∧af (aM r) w w'∧∀k,aJ v k→w.heap.size≤k
theorem sE {w:World}{r base:Nat}{b:List Int}{p:Nat}(size:Int)(h:jf w r base b p false):
 Calls Tryz.prog 88 #[.pointer (some ⟨r,0,none⟩),.int .i64 size] w (ng w r base [] b p false):=by
 have HH:=ae h;obtain⟨A,cp,h1,h2,h3,h4⟩:=h;have x2:ba w r 2 (.bool false):=h1.ag rfl;clear h1 h2 h3 h4
 go_enter Tryz.func88,Tryz.ntmps88
 go_wp2_with fail;go_ret;exact⟨_,rfl,Row.kv _ _,⟨p,HH⟩,af.ak _ _,fun k hk=>(bq hk).elim⟩
theorem sF {w:World}{r base:Nat}{b:List Int}{p:Nat}(size:Nat){x:Int}(h:jf w r base b p true)(hp:p≤b.length)(hb:sm b)(ht:de size b p= .error x):
 Calls Tryz.prog 88 #[.pointer (some ⟨r,0,none⟩),.int .i64 size] w (ng w r base [] b p false):=by
 obtain⟨A,cp,h1,h2,h3,h4⟩:=h;have HX:=ae<|vy ht;have x0:ba w r 0 (.slice A b.length cp):=h1.ag rfl;have x1:aF w r 1 (p:Nat):=h1.ag rfl;have x2:ba w r 2 (.bool true):=h1.ag rfl;have HT:=ae<|pE A b.length cp b p size x w.drew (h2.ao (af.ak aA w).drew fun _ _=>id) hp (kI hb p) ht;have H1:=ae h1;have H2:=ae h2;have H3:=ae h3;have H4:=ae h4;clear h1 h2 h3 h4 hp hb ht;have i0:ba w.drew r 0 (.slice A b.length cp):=x0;have i1:aF w.drew r 1 (p:Nat):=x1
 go_enter Tryz.func88,Tryz.ntmps88
 go_upto_region 3 with fail;refine kb (fun w':World=>ba w' r 0 (.slice A b.length cp)∧aF w' r 1 (p:Nat)) 16 ?_ ?_
 ·exact⟨i0,i1⟩
 intro aX;refine eZ [0,1,2,3,4,5,6,7,8] ?_;refine lh 9 fun K hK=>?_
 go_simp;refine HT.mono ?_;rintro e W2 ⟨rfl,rfl⟩;refine lj hK ?_ fun aX=>?_
 ·exact⟨i0,i1⟩
 clear hK;refine eZ [10,11,12,13,14,15] ?_;refine jz ?_;have g2:w.drew.frozen? ⟨r,2,none⟩=false:=H1.free 2;have E3:(x==0)=false:=by simpa using HX.out
 have y2:ba w.drew r 2 (.bool true):=x2;clear aX i0 i1 x0 x1 x2;go_wp2_with fail;go_ret;have j:af (aM r) w (w.drew.setCell ⟨r,2,none⟩ (.bool false)):=((af.ak (aM r) w).drew).setCell (p:=⟨r,2,none⟩) (.inl rfl) _;exact⟨_,rfl,Row.kv _ _,⟨p,A,cp,H1.drew.store 2 _,H2.ao j fun k hk e=>(H3 k hk).2.1 e,fun k hk=>⟨(H3 k hk).1,(H3 k hk).2.1,Nat.lt_of_lt_of_le (H3 k hk).2.2 j.size⟩,H4⟩,j,fun k hk=>(bq hk).elim⟩
theorem ft{P:Prop}(h:P:=by
 exact⟨_,rfl,zi.ao (j3 _) fun k hk e=>by have h1:k=r:=e;have:=Mn.out k hk;have h2:=H1.lt;have h3:w.drew.heap.size=w.heap.size:=rfl;omega,⟨p,A,cp,PO.store 2 _,H2.ao j fun k hk e=>(H3 k hk).2.1 e,fun k hk=>⟨(H3 k hk).1,(H3 k hk).2.1,Nat.lt_of_lt_of_le (H3 k hk).2.2 j.size⟩,H4⟩,j,fun k hk=>Mn k hk⟩):P:=h
theorem dC{P:Prop}(h:P:=by
 go_wp2_with fail;go_ret;have j3:∀v,af (aM r) W2 (W2.setCell ⟨r,2,none⟩ v):=fun v=>(af.ak (aM r) W2).setCell (p:=⟨r,2,none⟩) (.inl rfl) _
 have j:=F0.trans (j3 (.bool false));exact ft):P:=h
theorem vA {w:World}{r base:Nat}{b:List Int}{p:Nat}(size:Nat){t:List Int}{q:Nat}(h:jf w r base b p true)(hp:p≤b.length)(hb:sm b)(ht:de size b p= .ok (t,q)):
 Calls Tryz.prog 88 #[.pointer (some ⟨r,0,none⟩),.int .i64 size] w (ng w r base t b p (((t.length:Int)==(size:Int))&&((q:Int)==(b.length:Int)))):=by
 obtain⟨A,cp,h1,h2,h3,h4⟩:=h;have x0:ba w r 0 (.slice A b.length cp):=h1.ag rfl;have x1:aF w r 1 (p:Nat):=h1.ag rfl;have x2:ba w r 2 (.bool true):=h1.ag rfl;have HT:=ae<|qQ A b.length cp b p size t q w.drew (h2.ao (af.ak aA w).drew fun _ _=>id) hp (kI hb p) ht;have H1:=ae h1;have H2:=ae h2;have H3:=ae h3;have H4:=ae h4;clear h1 h2 h3 h4 hp hb ht;have i0:ba w.drew r 0 (.slice A b.length cp):=x0;have i1:aF w.drew r 1 (p:Nat):=x1;generalize zf:((t.length:Int)==(size:Int))=c1 at *;generalize uf:((q:Int)==(b.length:Int))=c2 at *;have C1:=ae zf;have C2:=ae uf;clear zf uf
 go_enter Tryz.func88,Tryz.ntmps88
 go_upto_region 3 with fail;refine kb (fun w':World=>ba w' r 0 (.slice A b.length cp)∧aF w' r 1 (p:Nat)) 16 ?_ ?_
 ·first|exact rq|exact⟨i0,i1⟩
 intro aX;refine eZ [0,1,2,3,4,5,6,7,8] ?_;refine lh 9 fun K hK=>?_
 go_simp;refine HT.mono ?_;rintro e W2 ⟨v,rfl,rj,bd,tQ⟩;obtain⟨A2,ir,E8,_,_⟩:=rj.shape;rw[cE]at E8;subst E8;have zi:=ae rj;have bR:=ae bd;have Mn:=ae tQ;have rq:ba W2 r 0 (.slice A b.length cp)∧aF W2 r 1 (p:Nat):=⟨bd.cell i0 id,bd.cell i1 id⟩;clear rj bd tQ;refine lj hK ?_ fun aX=>?_
 ·first|exact rq|exact⟨i0,i1⟩
 clear hK;refine eZ [10,11,12,13,14,15] ?_;refine jz ?_;have g2:W2.frozen? ⟨r,2,none⟩=false:=(bR.az H1.drew id).free 2;have y0:ba W2 r 0 (.slice A b.length cp):=aX.1;have y2:ba W2 r 2 (.bool true):=bR.cell (show ba w.drew r 2 (.bool true)from x2) id;have QU:=C1.out;have QT:=C2.out;have j2:af (aM r) w W2:=((af.ak (aM r) w).drew).iJ bR;have PO:=ae<|bR.az H1.drew id;have F0:=ae j2;clear aX i0 i1 x0 x1 x2 rq j2
 cases c1<;>cases c2
 ·exact dC
 ·exact dC
 ·exact dC
 ·go_wp2_with fail;go_ret;have j3:∀v,af (aM r) W2 (W2.setCell ⟨r,2,none⟩ v):=fun v=>(af.ak (aM r) W2).setCell (p:=⟨r,2,none⟩) (.inl rfl) _
  have j:=F0.trans (j3 (.bool true));exact ft
theorem sG {w:World}{r base:Nat}{b:List Int}{p:Nat}{ok:Bool}(size:Nat)(h:jf w r base b p ok)(hp:ok=true→p≤b.length)(hb:sm b):
 Calls Tryz.prog 88 #[.pointer (some ⟨r,0,none⟩),.int .i64 size] w (ng w r base (lz size b p ok).1 b p (lz size b p ok).2):=by
 cases ok with
 |false=>exact sE size h
 |true=>
  unfold lz;rw[if_pos rfl]
  cases ht:de size b p with
  |ok q=>obtain⟨t,j⟩:=q;exact vA size h (hp rfl) hb ht
  |error x=>exact sF size h (hp rfl) hb ht
theorem xQ {b:List Int}{p:Nat}{ok:Bool}(hp:ok=true→p≤b.length)(h:(dG b p ok).2.2=true):(dG b p ok).2.1≤b.length:=by
 unfold dG at h ⊢
 cases ok with
 |false=>simp at h
 |true=>
  simp only[if_true]at h ⊢;exact vC (fun _=>hp rfl) (by simpa using h)
end
def dY (sh:Nat→Int):Array Value:=#[.int .i64 (sh 0),.int .i64 (sh 1),.int .i64 (sh 2),.int .i64 (sh 3)]
structure zh (sh:Nat→Int):Prop where
 b0:1≤sh 0
 b1:sh 0≤32
 s0:1≤sh 1
 s1:sh 1≤16
 c0:1≤sh 2
 c1:sh 2≤4
 l0:1≤sh 3
 l1:sh 3≤4
def Cx (wr:Nat→Int)(d:Value):Array Value:=#[.int .i64 (wr 0),.int .i64 (wr 1),.int .i64 (wr 2),.int .i64 (wr 3),.int .i64 (wr 4),d]
def uy (sh wr:Nat→Int):Bool:=decide (0≤wr 0∧wr 0<sh 2∧0≤wr 1∧wr 1<sh 3∧1≤wr 2∧wr 2≤1099511627776∧1≤wr 3∧wr 3≤1099511627776)
theorem zh.mul {sh:Nat→Int}(h:zh sh){c:Int}(h0:0≤c)(h1:c<sh 2):0≤sh 3*c∧sh 3*c+sh 3≤sh 2*sh 3∧sh 2*sh 3≤16:=by
 have a1:=h.c0;have a2:=h.c1;have a3:=h.l0;have a4:=h.l1;generalize sh 2=x at *;generalize sh 3=y at *;rcases(show x=1∨x=2∨x=3∨x=4 by omega)with rfl|rfl|rfl|rfl<;>rcases(show c=0∨c=1∨c=2∨c=3 by omega)with rfl|rfl|rfl|rfl<;>omega
section
theorem fA{P:Prop}(h:P:=by
 have x2:aF W b 2 (sh 2):=HB.ag rfl;have x3:aF W b 3 (sh 3):=HB.ag rfl;go_wp2;go_ret;exact⟨rfl,HO⟩):P:=h
theorem sN {sh:Nat→Int}(h:zh sh)(w:World):Calls Tryz.prog 54 #[.agg (dY sh)] w fun e w'=>e= .returned (.bool true)∧af aA w w':=by
 obtain⟨h0,h1,h2,h3,h4,h5,h6,h7⟩:=h;have HB:=ae<|Box.fresh w 74 (dY sh);have HO:=ae<|(af.ak aA w).alloc (.cells (dY sh) 74)
 go_enter Tryz.func54,Tryz.ntmps54
 go_upto_region 1 with fail;change Code.wp _ _ _ _ (w.alloc (.cells (dY sh) 74));generalize w.alloc (.cells (dY sh) 74)=W at *;generalize w.heap.size=b at *;have x0:aF W b 0 (sh 0):=HB.ag rfl;have x1:aF W b 1 (sh 1):=HB.ag rfl;exact fA
theorem pf {sh:Nat→Int}(h:zh sh)(w:World):Calls Tryz.prog 56 #[.agg (dY sh)] w fun e w'=>e= .returned (.int .i64 (1+sh 0+sh 2*sh 3))∧af aA w w':=by
 have hm:=h.mul (c:=0) (Int.le_refl _) (by have:=h.c0;omega);have nN:0≤sh 2*sh 3∧sh 2*sh 3≤16:=by have h1:=h.l0;omega
 obtain⟨h0,h1,h2,h3,h4,h5,h6,h7⟩:=h;have w1:IntKind.i64.wrap (1+sh 0)=1+sh 0:=by rw[IntKind.wrap_i64];omega
 have w2:IntKind.i64.wrap (sh 2*sh 3)=sh 2*sh 3:=by rw[IntKind.wrap_i64];omega
 have w3:IntKind.i64.wrap (1+sh 0+sh 2*sh 3)=1+sh 0+sh 2*sh 3:=by rw[IntKind.wrap_i64];omega
 have HB:=ae<|Box.fresh w 74 (dY sh);have HO:=ae<|(af.ak aA w).alloc (.cells (dY sh) 74);clear hm nN
 go_enter Tryz.func56,Tryz.ntmps56
 go_upto_region 1 with fail;change Code.wp _ _ _ _ (w.alloc (.cells (dY sh) 74));generalize w.alloc (.cells (dY sh) 74)=W at *;generalize w.heap.size=b at *;have x0:aF W b 0 (sh 0):=HB.ag rfl;exact fA
theorem pj {sh:Nat→Int}{b:Int}(h0:0≤b)(h1:b≤1000)(w:World):Calls Tryz.prog 93 #[.agg (dY sh),.int .i64 b] w fun e w'=>e= .returned (.int .i64 (1+b))∧af aA w w':=by
 have HO:=ae<|(af.ak aA w).alloc (.cells (dY sh) 74)
 go_enter Tryz.func93,Tryz.ntmps93
 go_upto_region 1 with fail;change Code.wp _ _ _ _ (w.alloc (.cells (dY sh) 74));generalize w.alloc (.cells (dY sh) 74)=W at *;go_wp2;go_ret;exact⟨rfl,HO⟩
theorem BB {sh:Nat→Int}(h:zh sh){c s:Int}(h0:0≤c)(h1:c<sh 2)(h2:0≤s)(h3:s<sh 3)(w:World):Calls Tryz.prog 94 #[.agg (dY sh),.int .i64 c,.int .i64 s] w fun e w'=>e= .returned (.int .i64 (1+sh 0+sh 3*c+s))∧af aA w w':=by
 have hm:=h.mul h0 h1;have b0:=h.b0;have b1:=h.b1;have l1:=h.l1;have w1:IntKind.i64.wrap (1+sh 0)=1+sh 0:=by rw[IntKind.wrap_i64];omega
 have w2:IntKind.i64.wrap (sh 3*c)=sh 3*c:=by rw[IntKind.wrap_i64];omega
 have w3:IntKind.i64.wrap (1+sh 0+sh 3*c)=1+sh 0+sh 3*c:=by rw[IntKind.wrap_i64];omega
 have w4:IntKind.i64.wrap (1+sh 0+sh 3*c+s)=1+sh 0+sh 3*c+s:=by rw[IntKind.wrap_i64];omega
 have HB:=ae<|Box.fresh w 74 (dY sh);have HO:=ae<|(af.ak aA w).alloc (.cells (dY sh) 74);clear hm h
 go_enter Tryz.func94,Tryz.ntmps94
 go_upto_region 1 with fail;change Code.wp _ _ _ _ (w.alloc (.cells (dY sh) 74));generalize w.alloc (.cells (dY sh) 74)=W at *;generalize w.heap.size=b at *;have x0:aF W b 0 (sh 0):=HB.ag rfl;have x3:aF W b 3 (sh 3):=HB.ag rfl;go_wp2;go_ret;exact⟨rfl,HO⟩
theorem gf{P:Prop}(h:P:=by
 generalize Nv:wr 0=c0 at *;generalize wr 1=c1 at *;generalize wr 2=c2 at *;generalize wr 3=c3 at *;generalize wr 4=c4 at *;generalize sh 0=s0 at *;generalize sh 1=s1 at *;generalize sh 2=s2 at *;generalize sh 3=s3 at *;clear Nv;go_wp2;go_ret;exact⟨by rw[hF.out];rfl,HO⟩):P:=h
theorem a7{P:Prop}(h:P:=by
 have hF:=aH (uy sh wr=false) (by unfold uy;exact decide_eq_false ai);exact gf):P:=h
theorem EP {sh wr:Nat→Int}(A:Option Addr)(n c:Nat)(w:World):Calls Tryz.prog 89 #[.agg (dY sh),.agg (Cx wr (.slice A n c))] w fun e w'=>e= .returned (.bool (uy sh wr))∧af aA w w':=by
 have Ds:=ae<|Box.fresh w 74 (dY sh);have al:=(af.ak aA w).alloc (.cells (dY sh) 74);have cQ:=ae<|Box.fresh (w.alloc (.cells (dY sh) 74)) 110 (Cx wr (.slice A n c));have nS:=(af.ak aA (w.alloc (.cells (dY sh) 74))).alloc (.cells (Cx wr (.slice A n c)) 110);have HO:=ae<|al.trans nS;have eC:=ae<|nS.az Ds id;clear al nS
 go_enter Tryz.func89,Tryz.ntmps89
 go_upto_region 1 with fail;change Code.wp _ _ _ _ ((w.alloc (.cells (dY sh) 74)).alloc (.cells (Cx wr (.slice A n c)) 110));clear Ds;rw[show(w.alloc (.cells (dY sh) 74)).heap.size=w.heap.size+1 by simp]at cQ;generalize(w.alloc (.cells (dY sh) 74)).alloc (.cells (Cx wr (.slice A n c)) 110)=W at *;generalize w.heap.size=b at *;have x2:aF W b 2 (sh 2):=eC.ag rfl;have x3:aF W b 3 (sh 3):=eC.ag rfl;have y0:aF W (b+1) 0 (wr 0):=cQ.ag rfl;have y1:aF W (b+1) 1 (wr 1):=cQ.ag rfl;have y2:aF W (b+1) 2 (wr 2):=cQ.ag rfl;have y3:aF W (b+1) 3 (wr 3):=cQ.ag rfl;clear cQ eC
 by_cases h0:0≤wr 0
 ·by_cases h1:wr 0<sh 2
  ·by_cases h2:0≤wr 1
   ·by_cases h3:wr 1<sh 3
    ·by_cases h4:1≤wr 2
     ·by_cases h5:wr 2≤1099511627776
      ·by_cases h6:1≤wr 3
       ·by_cases h7:wr 3≤1099511627776
        ·have hF:=aH (uy sh wr=true) (by unfold uy;exact decide_eq_true ⟨h0,h1,h2,h3,h4,h5,h6,h7⟩);exact gf
        ·exact a7
       ·exact a7
      ·exact a7
     ·exact a7
    ·exact a7
   ·exact a7
  ·exact a7
 ·exact a7
def uN (n:Nat)(I:Nat→World→Prop)(i:Value)(wr:World):Prop:=∃k:Nat,k≤n∧i= .int .i64 k∧I k wr
theorem vH (r n cb:Nat)(B:Option Addr)(pg po:Nat→Nat)(I:Nat→World→Prop)(w:World)(hn:n≤6)(h0:I 0 w)
 (hI:∀k wr,k<n→I k wr→(∃g o,B=some ⟨g,o,none⟩∧ba wr g (o+k) (.pointer (some ⟨pg k,po k,none⟩)))∧
  Calls Tryz.prog 87 #[.pointer (some ⟨r,0,none⟩)] wr fun e w'=>∃x:Int,e= .returned (.int .i64 x)∧(∃u,ba w' (pg k) (po k) u)∧w'.frozen? ⟨pg k,po k,none⟩=false∧I (k+1) (w'.setCell ⟨pg k,po k,none⟩ (.int .i64 x))):
 Calls Tryz.prog 86 #[.func (.func 87) #[.pointer (some ⟨r,0,none⟩)] #[],.slice B n cb] w fun e w'=>e= .returned (.tuple #[])∧I n w':=by
 have HI:=ae hI;have HS:=aH (uN n I (.int .i64 0) w) (⟨0,eK _,rfl,h0⟩);clear hI h0
 go_enter Tryz.func86,Tryz.ntmps86
 go_wp2_with fail
 go_loopw [8] (fun i wr=>uN n I i wr) (fun i _=>n - (intOf i).toNat)
 case atStart=>exact HS
 case round=>
  clear HS;obtain⟨k,hk,rfl,hi⟩:=hrel
  by_cases aO:k<n
  ·have mO:(k:Int)<n:=ai;obtain⟨⟨g,o,hB,hc⟩,zA⟩:=HI.out k wr aO hi;subst hB;have HC:=ae zA;clear zA hi;have Db:=ae aO;generalize pg k=Nb at *;generalize po k=Na at *;go_wp2_with fail;refine HC.mono ?_;rintro e w1 ⟨x,rfl,⟨u,hu⟩,hf,rk⟩;have HR:=aH (uN n I (.int .i64 ((k:Int)+1)) (w1.setCell ⟨Nb,Na,none⟩ (.int .i64 x))) (⟨k+1,Db,by simp,rk⟩);clear rk;go_wp2_with fail;exact fp
  ·obtain rfl:k=n:=ai;have HF:=ae hi;clear hi aO hk;go_wp2_with fail
   go_end0
   exact⟨rfl,HF⟩
end
structure gF (w:World)(sb db lb:Nat)(V:Nat→Value)(sh:Nat→Int)(d:dH):Prop where
 az:Box w sb 108 (p7 sh db)
 B1:dI w db lb V d
 off:¬gN db lb V sb
 zW:zh sh
 f0: -1≤d.b9
 f1:d.b9≤9223372036854775807
 EY:∀i,sm (d.sec i)
theorem gF.ao {S:Nat→Prop}{w w':World}{sb db lb:Nat}{V:Nat→Value}{sh:Nat→Int}{d:dH}(h:gF w sb db lb V sh d)(ho:af S w w')(hS:∀k,k=sb∨gN db lb V k→¬S k):gF w' sb db lb V sh d:=
 {az:=ho.az h.az (hS _ (.inl rfl)),B1:=h.B1.ao ho fun k hk=>hS k (.inr hk),off:=h.off,zW:=h.zW,f0:=h.f0,f1:=h.f1,EY:=h.EY}
theorem gF.keep {w w':World}{sb db lb:Nat}{V:Nat→Value}{sh:Nat→Int}{d:dH}(h:gF w sb db lb V sh d)(ho:af aA w w'):gF w' sb db lb V sh d:=h.ao ho fun _ _=>id
theorem gF.lt {w:World}{sb db lb:Nat}{V:Nat→Value}{sh:Nat→Int}{d:dH}(h:gF w sb db lb V sh d){k:Nat}(hk:k=sb∨gN db lb V k):k<w.heap.size:=by
 rcases hk with rfl|hk
 ·exact h.az.lt
 ·exact h.B1.lt hk
def eH (size:Nat)(b:List Int):Nat×List Int:=
 if(lz size b (dG b 0 true).2.1 (dG b 0 true).2.2).2=true∧(dG b 0 true).1≤1000 then((dG b 0 true).1,(lz size b (dG b 0 true).2.1 (dG b 0 true).2.2).1)else(0,List.replicate size 0)
theorem qI (w:World)(n:Nat)(hn:n≤1000):Row 5 (w.alloc (.cells (madeCells #[.int .u8 0] n) 5)) (.slice (some ⟨w.heap.size,0,none⟩) n n) (bytes (List.replicate n 0)):=by
 have e:(bytes (List.replicate n 0))=List.replicate n (Value.int .u8 0):=by simp[bytes]
 rw[e];refine .inr ⟨w.heap.size,n,_,by rw[List.length_replicate],Box.fresh w _ _,by rw[List.length_replicate];exact dT _,by rw[size_madeCells];exact dT _,by unfold maxLen;omega,?_⟩;rw[toList_madeCells_one,List.length_replicate];exact List.take_of_length_le (by simp)
def vr (n:Nat)(t:List Int)(w:World)(e:Ending)(w':World):Prop:=∃v,e= .returned (.tuple #[.int .i64 n,v])∧Row 5 w' v (bytes t)∧af aA w w'∧∀k,aJ v k→w.heap.size≤k
section
variable {w:World}{sb db lb:Nat}{V:Nat→Value}{sh:Nat→Int}{d:dH}
theorem dP (h:gF w sb db lb V sh d):aF w sb 0 (sh 0)∧aF w sb 1 (sh 1)∧aF w sb 2 (sh 2)∧aF w sb 3 (sh 3)∧ba w sb 4 (.pointer (some ⟨db,0,none⟩)):=
 ⟨h.az.ag rfl,h.az.ag rfl,h.az.ag rfl,h.az.ag rfl,h.az.ag rfl⟩
theorem fq{P:Prop}(h:P:=by
 go_upto_region 5 with fail;refine kb (fun w':World=>aF w' sb 1 size) 7 ?_ ?_
 ·first|exact BZ|exact y1
 intro aX;refine eZ [0,1,2,3,4,6] ?_;refine lh 5 fun K hK=>?_
 have nM:=Av.out;go_simp;have BZ:aF (W4.drew.alloc (.cells (madeCells #[.int .u8 0] size) 5)) sb 1 size:=((af.ak aA W4.drew).alloc _).cell (show W4.drew.cell? ⟨sb,1,none⟩=_ from y1) id;clear nM;refine lj hK ?_ fun aX=>?_
 ·first|exact BZ|exact y1
 clear hK;refine jz ?_;clear aX BZ;go_wp2_with fail;go_ret2;rw[F4.out];exact HZ _ jb.drew):P:=h
theorem sD {b size:Nat}(hb:(b:Int)<sh 0)(hsz:sh 1=size)(h:gF w sb db lb V sh d):
 Calls Tryz.prog 59 #[.pointer (some ⟨sb,0,none⟩),.int .i64 b] w (vr (eH size (d.sec (1+b))).1 (eH size (d.sec (1+b))).2 w):=by
 obtain⟨x0,x1,x2,x3,x4⟩:=dP h;have HH:=ae h;have NB:=h.zW.b1;have hi:1+b<64:=ai;have HI:=ae hi;have iw:=ae (show size≤16 by have:=h.zW.s1;omega);have HA:=ae<|fun w=>pj (sh:=sh) (b:=b) ai ai w;have Mo:=ae<|h.EY (1+b);have L5:=ae hsz;have hc:((1+b:Nat):Int)=1+(b:Int):=ai;have HC:=ae hc;clear h NB hi hb hsz hc
 go_enter Tryz.func59,Tryz.ntmps59
 go_upto_region 2 with(first|(go_at_call 93;refine(HA _).mono ?_;rintro e W1 ⟨rfl,a8⟩;have bw:=ae a8;have HR:=oE HI (HH.keep a8).az (HH.keep a8).B1;rw[HC.out]at HR;have HR:=ae HR;clear a8)|(go_at_call 85;refine HR.mono ?_;rintro e W2 ⟨r,rfl,hr,bd⟩));have bR:=ae<|bw.trans bd;have ru:=ae<|(HH.keep bw).keep bd;have HB:=aH (w.heap.size≤W1.heap.size) (bw.size);generalize d.sec (1+b)=bs at *;have tW:=ae<|oF hr (fun _=>Nat.zero_le _) Mo;have Pr:=ae<|xQ (b:=bs) (p:=0) (ok:=true) fun _=>Nat.zero_le _;clear hr bd HR HA x0 x1 x2 x3 x4 bw;have HE:=aH (eH size bs=if(lz size bs (dG bs 0 true).2.1 (dG bs 0 true).2.2).2=true∧(dG bs 0 true).1≤1000 then((dG bs 0 true).1,(lz size bs (dG bs 0 true).2.1 (dG bs 0 true).2.2).1)else(0,List.replicate size 0)) (rfl);generalize(dG bs 0 true).1=n1 at *;generalize(dG bs 0 true).2.1=p1 at *;generalize(dG bs 0 true).2.2=k1 at *;go_upto_region 3 with(go_at_call 87;refine tW.mono ?_;rintro e W3 ⟨rfl,uc,bQ⟩);have b7:=ae<|bR.aE bQ fun k hk=>.inr (by obtain⟨_,_,_,_,_,h4⟩:=uc;have h5:k=r:=hk;have:=HB.out;omega);have uj:=ae (ru.ao bQ fun k hk e=>by obtain⟨_,_,_,_,_,h4⟩:=uc;have h5:k=r:=e;have h6:=HH.lt hk;have:=HB.out;omega);have HT:=ae<|sG size uc Pr Mo;have L6:=ae (show w.heap.size≤r by obtain⟨_,_,_,_,_,h4⟩:=uc;have:=HB.out;omega);have x1:=(dP uj).2.1;rw[L5.out]at x1;clear bQ uc tW bR ru;generalize tQ:(lz size bs p1 k1).2=k2 at *;generalize(lz size bs p1 k1).1=t1 at *;clear tQ;go_upto_region 4 with(go_at_call 88;refine HT.mono ?_;rintro e W4 ⟨v,rfl,E7,⟨p4,zc⟩,gB,Kt⟩);have jb:=ae<|b7.aE gB fun k hk=>.inr (by have h5:k=r:=hk;have:=L6.out;omega);have Pe:=ae (uj.ao gB fun k hk e=>by have h5:k=r:=e;have h6:=HH.lt hk;have:=L6.out;omega);have z2:ba W4 r 2 (.bool k2):=by obtain⟨_,_,h1,_⟩:=zc;exact h1.ag rfl
 have y1:=(dP Pe).2.1;rw[L5.out]at y1;have HV:=ae E7;have HK:=aH (∀k,aJ v k→w.heap.size≤k) (fun k hk=>Nat.le_trans b7.size (Kt k hk));clear gB zc E7 Kt HT b7 uj x1;have nM:∀w,(Instr.makeSlice 35 (.int .i64 size) (.int .i64 size)).run Tryz.prog w= .ok (.slice (some ⟨w.heap.size,0,none⟩) size size) (w.alloc (.cells (madeCells #[.int .u8 0] size) 5)):=fun w=>
  run_make_row' (P:=Tryz.prog) 35 5 _ 1 Tryz.underlying35 cP rfl .i64 .i64 size (by have:=iw.out;omega) (by have:=iw.out;omega) w
 have Av:=ae nM;clear nM;have zeros:∀W,af aA w W→vr 0 (List.replicate size 0) w (.returned (.tuple #[.int .i64 0,.slice (some ⟨W.heap.size,0,none⟩) size size])) (W.alloc (.cells (madeCells #[.int .u8 0] size) 5)):=fun W ho=>
  ⟨_,rfl,qI W size (by have:=iw.out;omega),ho.alloc _,fun k hk=>by rw[aq]at hk;subst hk;exact ho.size⟩
 have HZ:=ae zeros;clear zeros
 cases k2 with
 |false=>
  have F4:=ae<|HE.trans (if_neg (by simp));exact fq
 |true=>
  by_cases hn:n1≤1000
  ·have F4:=ae<|HE.trans (if_pos ⟨rfl,hn⟩);have rk:¬(1000:Int)<n1:=ai;go_wp2_with fail;go_ret2;rw[F4.out];exact⟨v,rfl,HV,jb,HK⟩
  ·have F4:=ae<|HE.trans (if_neg (fun h=>hn h.2));have rk:(1000:Int)<n1:=ai;exact fq
end
theorem lg {P:Program}{fn:Func}{p q u:Tmp}{ty JS:TypeId}(h:fn.results=#[.cell p ty,.cell q JS,.tmp u])(tmps:Array Value)(w:World)(g:Nat)(t:TypeId)(cs:Array Value)(fr:Nat×Nat)(d:TypeDesc)(a:Addr)(v:Value)
 (hp:tmps.getD p undef= .pointer (some ⟨g,0,none⟩)) (hg:w.heap[g]? =some (.cells cs t fr))
 (hu:P.underlying ty=some d) (hd:(match d with| .struct _| .array _ _=>true|_=>false)=true) (hi:(P.info? ty).map (·.size)=some cs.size)
 (hq:tmps.getD q undef= .pointer (some a)) (hl:(loadVar JS a).run P w= .ok v w):
 (results fn tmps).run P w= .ok (.tuple #[.agg cs,v,tmps.getD u undef]) w:=by
 have iE:tmps[p]?.getD undef= .pointer (some ⟨g,0,none⟩):=by simpa using hp
 have NH:tmps[q]?.getD undef= .pointer (some a):=by simpa using hq
 simp[results,h,iE,NH,asAddr,run_loadVar_row w g t ty cs fr d hg hu hd hi,hl,Sem.run_bind,Result.andThen]
def ka:Array Value:=#[.int .i64 0,.int .i64 0,.int .i64 0,.int .i64 0,.int .i64 0,.slice none 0 0]
section
variable {w:World}{sb db lb:Nat}{V:Nat→Value}{sh:Nat→Int}{d:dH}
theorem qn {r base:Nat}{b:List Int}{p:Nat}(size:Int)(h:jf w r base b p false):
 Calls Tryz.prog 88 #[.pointer (some ⟨r,0,none⟩),.int .i64 size] w fun e w'=>e= .returned (.slice none 0 0)∧w=w':=by
 obtain⟨A,cp,h1,h2,h3,h4⟩:=h;have x2:ba w r 2 (.bool false):=h1.ag rfl;clear h1 h2 h3 h4
 go_enter Tryz.func88,Tryz.ntmps88
 go_wp2_with fail;go_ret;exact⟨rfl,rfl⟩
structure FG (w0:World)(bs r wb vb pb:Nat)(k:Nat)(W:World):Prop where
 rd:jf W r bs [] 0 (k==0)
 nb:wb<bs∧vb<bs∧w0.heap.size≤bs
 wr:Box W wb 110 ka
 ve:Box W vb 3 #[.int .i64 0]
 pl:Box W pb 162 #[.pointer (some ⟨wb,0,none⟩),.pointer (some ⟨wb,1,none⟩),.pointer (some ⟨wb,2,none⟩),.pointer (some ⟨wb,3,none⟩),.pointer (some ⟨wb,4,none⟩),.pointer (some ⟨vb,0,none⟩)]
 on:af aA w0 W
 n1:w0.heap.size≤wb∧w0.heap.size≤vb∧w0.heap.size≤pb
 n2:r≠wb∧r≠vb∧r≠pb∧wb≠vb∧wb≠pb∧vb≠pb
theorem vD (k:Nat):dG [] 0 (k==0)=(0,0,false):=by
 cases k with
 |zero=>rfl
 |succ n=>rfl
theorem xG (k:Nat)(hk:k<5):ka.setIfInBounds k (.int .i64 0)=ka:=by
 rcases(show k=0∨k=1∨k=2∨k=3∨k=4 by omega)with rfl|rfl|rfl|rfl|rfl<;>rfl
def BP (wb vb k:Nat):Nat:=if k=5 then vb else wb
def BO (k:Nat):Nat:=if k=5 then 0 else k
theorem yr {w0 W:World}{bs r wb vb pb k:Nat}(hk:k<6)(h:FG w0 bs r wb vb pb k W):
 (∃g o,(some ⟨pb,0,none⟩:Option Addr)=some ⟨g,o,none⟩∧ba W g (o+k) (.pointer (some ⟨BP wb vb k,BO k,none⟩)))∧
  Calls Tryz.prog 87 #[.pointer (some ⟨r,0,none⟩)] W fun e w'=>∃x:Int,e= .returned (.int .i64 x)∧(∃u,ba w' (BP wb vb k) (BO k) u)∧w'.frozen? ⟨BP wb vb k,BO k,none⟩=false∧FG w0 bs r wb vb pb (k+1) (w'.setCell ⟨BP wb vb k,BO k,none⟩ (.int .i64 x)):=by
 refine⟨⟨pb,0,rfl,?_⟩,?_⟩
 ·rw[Nat.zero_add];rcases(show k=0∨k=1∨k=2∨k=3∨k=4∨k=5 by omega)with rfl|rfl|rfl|rfl|rfl|rfl<;>exact h.pl.ag rfl
 ·refine(oF h.rd (fun _=>Nat.zero_le _) (fun x hx=>by cases hx)).mono ?_;rintro e w' ⟨rfl,hr,ho⟩;rw[vD]at hr ⊢;obtain⟨a1,a2,a3,a4,a5,a6⟩:=h.n2;have hw:=ho.az h.wr (show¬wb=r from fun e=>a1 e.symm);have hv:=ho.az h.ve (show¬vb=r from fun e=>a2 e.symm);have hp:=ho.az h.pl (show¬pb=r from fun e=>a3 e.symm);have Kj:af aA w0 w':=h.on.aE ho fun q hq=>.inr (by obtain⟨_,_,_,_,_,h5⟩:=h.rd;have h6:q=r:=hq;have:=h.nb;omega)
  obtain⟨n1,n2,n3⟩:=h.n1
  by_cases e5:k=5
  ·subst e5;have j:af (aM vb) w' (w'.setCell ⟨vb,0,none⟩ (.int .i64 (0:Nat))):=(af.ak (aM vb) w').setCell (p:=⟨vb,0,none⟩) (.inl (show aM vb vb from rfl)) _;refine⟨_,rfl,⟨_,hv.ag rfl⟩,hv.free _,hr.ao j fun q h1 h2 e=>?_,h.nb,j.az hw a4,hv.store 0 _,j.az hp fun e=>a6 e.symm,Kj.aE j fun q hq=>.inr (by have h6:q=vb:=hq;omega),h.n1,h.n2⟩;have h6:q=vb:=e;have:=h.nb;omega
  ·have eg:BP wb vb k=wb:=if_neg e5;have eo:BO k=k:=if_neg e5;rw[eg,eo];have NZ:k<5:=ai;have j:af (aM wb) w' (w'.setCell ⟨wb,k,none⟩ (.int .i64 (0:Nat))):=(af.ak (aM wb) w').setCell (p:=⟨wb,k,none⟩) (.inl (show aM wb wb from rfl)) _;have hz:=hw.store k (.int .i64 (0:Nat));rw[show((0:Nat):Int)=0 from rfl,xG k NZ]at hz;refine⟨_,rfl,?_,hw.free _,hr.ao j fun q h1 h2 e=>?_,h.nb,hz,j.az hv fun e=>a4 e.symm,j.az hp fun e=>a5 e.symm,Kj.aE j fun q hq=>.inr (by have h6:q=wb:=hq;omega),h.n1,h.n2⟩
   ·rcases(show k=0∨k=1∨k=2∨k=3∨k=4 by omega)with rfl|rfl|rfl|rfl|rfl<;>exact⟨_,hw.ag rfl⟩
   ·have h6:q=wb:=e;have:=h.nb;omega
theorem cz{P:Prop}(h:P:=by
 first|exact⟨O7.drew,B3.drew,z2,kh.drew⟩|exact DQ|exact DP):P:=h
theorem ny (he:d.sec 0= [])(h:gF w sb db lb V sh d):
 Calls Tryz.prog 57 #[.pointer (some ⟨sb,0,none⟩)] w fun e w'=>e= .returned (.tuple #[.agg ka,.int .i64 0,.bool false])∧af aA w w':=by
 have HH:=ae h;have HE:=ae he;clear h he
 go_enter Tryz.func57,Tryz.ntmps57
 go_upto_region 1 with fail;have ku:=(af.ak aA w).alloc (.cells #[.int .i64 0,.int .i64 0,.int .i64 0,.int .i64 0,.int .i64 0,.slice none 0 0] 110);have b1:=Box.fresh w 110 #[.int .i64 0,.int .i64 0,.int .i64 0,.int .i64 0,.int .i64 0,.slice none 0 0];have nS:=(af.ak aA (w.alloc (.cells #[.int .i64 0,.int .i64 0,.int .i64 0,.int .i64 0,.int .i64 0,.slice none 0 0] 110))).alloc (.cells #[.int .i64 0] 3);have b2:=Box.fresh (w.alloc (.cells #[.int .i64 0,.int .i64 0,.int .i64 0,.int .i64 0,.int .i64 0,.slice none 0 0] 110)) 3 #[.int .i64 0];rw[show(w.alloc (.cells #[.int .i64 0,.int .i64 0,.int .i64 0,.int .i64 0,.int .i64 0,.slice none 0 0] 110)).heap.size=w.heap.size+1 by simp]at b2;have HW:=ae<|nS.az b1 id;have HV:=ae b2;have HO:=ae<|ku.trans nS;have iw:=ae (show((w.alloc (.cells #[.int .i64 0,.int .i64 0,.int .i64 0,.int .i64 0,.int .i64 0,.slice none 0 0] 110)).alloc (.cells #[.int .i64 0] 3)).heap.size=w.heap.size+2 by simp);change Code.wp _ _ _ _ ((w.alloc (.cells #[.int .i64 0,.int .i64 0,.int .i64 0,.int .i64 0,.int .i64 0,.slice none 0 0] 110)).alloc (.cells #[.int .i64 0] 3));clear ku nS b1 b2;generalize(w.alloc (.cells #[.int .i64 0,.int .i64 0,.int .i64 0,.int .i64 0,.int .i64 0,.slice none 0 0] 110)).alloc (.cells #[.int .i64 0] 3)=W1 at *;obtain⟨wb,CH⟩:∃wb,wb=w.heap.size:=⟨_,rfl⟩;have De:=ae CH;rw[←CH]at HW HV iw ⊢;clear CH;have HR:=ae<|oE (by decide:0<64) (HH.keep HO).az (HH.keep HO).B1;go_upto_region 2 with(go_at_call 85;refine HR.mono ?_;rintro e W2 ⟨r,rfl,rj,bd⟩);have Iv:=ae rj;have bR:=ae<|HO.trans bd;have LX:=ae<|bd.az HW id;have tT:=ae<|bd.az HV id;have Pk:=ae (show W1.heap.size≤r∧r<W2.heap.size by obtain⟨_,_,h1,_,_,h4⟩:=rj;exact⟨h4,h1.lt⟩);clear rj bd HR HW HV HO;go_wp2_with fail;have C8:=(af.ak aA W2).alloc (.cells #[.pointer (some ⟨wb,0,none⟩),.pointer (some ⟨wb,1,none⟩),.pointer (some ⟨wb,2,none⟩),.pointer (some ⟨wb,3,none⟩),.pointer (some ⟨wb,4,none⟩),.pointer (some ⟨wb+1,0,none⟩)] 162);have b3:=Box.fresh W2 162 #[.pointer (some ⟨wb,0,none⟩),.pointer (some ⟨wb,1,none⟩),.pointer (some ⟨wb,2,none⟩),.pointer (some ⟨wb,3,none⟩),.pointer (some ⟨wb,4,none⟩),.pointer (some ⟨wb+1,0,none⟩)];have Nu:=LX.lt;have E8:=tT.lt;have HJ:=ae (show FG w W1.heap.size r wb (wb+1) W2.heap.size 0 (W2.alloc (.cells #[.pointer (some ⟨wb,0,none⟩),.pointer (some ⟨wb,1,none⟩),.pointer (some ⟨wb,2,none⟩),.pointer (some ⟨wb,3,none⟩),.pointer (some ⟨wb,4,none⟩),.pointer (some ⟨wb+1,0,none⟩)] 162))from
  {rd:=by rw[←HE.out];exact Iv.ao C8 fun _ _ _=>id,nb:=by have h1:=iw.out;have h2:=De.out;omega,wr:=C8.az LX id,ve:=C8.az tT id,pl:=b3,on:=bR.trans C8,n1:=by have h2:=De.out;have h3:=bR.size;omega,n2:=by have h1:=iw.out;have h2:=Pk.out;omega})
 clear C8 b3 Nu E8;generalize W2.alloc (.cells #[.pointer (some ⟨wb,0,none⟩),.pointer (some ⟨wb,1,none⟩),.pointer (some ⟨wb,2,none⟩),.pointer (some ⟨wb,3,none⟩),.pointer (some ⟨wb,4,none⟩),.pointer (some ⟨wb+1,0,none⟩)] 162)=W3 at *;have xl:=ae<|vH r 6 6 (some ⟨W2.heap.size,0,none⟩) (BP wb (wb+1)) BO (FG w W1.heap.size r wb (wb+1) W2.heap.size) W3 av HJ fun k W hk hj=>yr hk hj;refine xl.mono ?_;rintro e W4 ⟨rfl,BU⟩;have Cc:=ae BU;have HT:=ae<|qn (sh 1) (show jf W4 r W1.heap.size [] 0 false from BU.rd);have Ac:aF W4 sb 1 (sh 1):=BU.on.cell (dP HH).2.1 id;have Fz:ba W4 wb 5 (.slice none 0 0):=BU.wr.ag rfl;have KD:W4.frozen? ⟨wb,5,none⟩=false:=BU.wr.free _;clear BU xl HJ;go_upto_region 4 with(go_at_call 88;refine HT.mono ?_;rintro e W5 ⟨rfl,rfl⟩);have j5:af (aM wb) W4 (W4.setCell ⟨wb,5,none⟩ (.slice none 0 0)):=(af.ak (aM wb) W4).setCell (p:=⟨wb,5,none⟩) (.inl (show aM wb wb from rfl)) _;have O7:=aH (Box (W4.setCell ⟨wb,5,none⟩ (.slice none 0 0)) wb 110 ka) (Cc.wr.store 5 _);have B3:=ae<|j5.az Cc.ve (show¬wb+1=wb by omega);have zi:=aH (¬r=wb) (Cc.n2.1);have Pj:=aH (¬r=wb+1) (Cc.n2.2.1);have kh:=ae<|Cc.on.aE j5 fun k hk=>.inr (by have h1:k=wb:=hk;have:=De.out;omega);have z2:ba (W4.setCell ⟨wb,5,none⟩ (.slice none 0 0)).drew r 2 (.bool false):=by
  obtain⟨_,_,h1,_⟩:=Cc.rd;exact j5.cell (h1.ag rfl) (show¬r=wb from zi)
 change Code.wp _ _ _ _ (W4.setCell ⟨wb,5,none⟩ (.slice none 0 0));clear j5 Ac Fz KD HT;generalize W4.setCell ⟨wb,5,none⟩ (.slice none 0 0)=W5 at *;refine kb (fun w':World=>Box w' wb 110 ka∧Box w' (wb+1) 3 #[.int .i64 0]∧ba w' r 2 (.bool false)∧af aA w w') 34 ?_ ?_
 ·exact cz
 intro aX;refine bj (i:=0) (v:=.agg ka) bJ rfl bJ (fun _ _ _ h=>h) (yieldsIf_load_mid (by rfl) 110 _ rfl wb 0 rfl ka.toList _ (fun w hw j v hj=>by rw[Nat.zero_add];exact hw.1.ag (by rw[←Array.getElem?_toList];exact hj)) Tryz.underlying110 rfl bJ) (by assumption) ?_;refine sd ?_;refine bj (i:=1) (v:=.int .i64 0) bJ rfl bJ (fun _ _ _ h=>h) (.inl ⟨by rfl,?_⟩) aX ?_
 ·intro w hSw;have Qp:=hSw.2.1.ag (i:=0) rfl;clear hSw;go_simp;(try with_reducible rfl)
 refine sd ?_;refine JR [2,3,4,5,6,7,8,9,10,11] ?_;refine lh 12 fun K hK=>?_
 rw[if_neg (by first|(simp[Region.wanted,yielded];done)|(simp[Region.wanted,yielded];intro h;cases h))];refine lj hK ?_ fun aX=>?_
 ·exact cz
 clear hK;refine JR [13,14,15,16,17,18,19,20,21,22,23,24,25,26,27,28,29,30,31] ?_;refine lh 32 fun K hK=>?_
 refine wp_store_row 110 _ _ rfl wb ka rfl rfl 110 _ aX.1 bJ rfl (by simp[ka,Value.oneCell']) ?_;have EX:af (aM wb) W5.drew (W5.drew.setRow wb ka):=(af.ak (aM wb) W5.drew).aK (.inl rfl) _;have DQ:Box (W5.drew.setRow wb ka) wb 110 ka∧Box (W5.drew.setRow wb ka) (wb+1) 3 #[.int .i64 0]∧ba (W5.drew.setRow wb ka) r 2 (.bool false)∧af aA w (W5.drew.setRow wb ka):=⟨aX.1.aK _,EX.az aX.2.1 (show¬wb+1=wb by omega),EX.cell aX.2.2.1 (show¬r=wb from zi),aX.2.2.2.aE EX fun k hk=>.inr (by have h1:k=wb:=hk;have:=De.out;omega)⟩;clear EX;refine lj hK ?_ fun aX=>?_
 ·exact cz
 clear hK;refine lh 33 fun K hK=>?_
 have I2:=aX.2.1.ag (i:=0) rfl;have Je:=aX.2.1.free 0;go_simp;have EW:af (aM (wb+1)) (W5.drew.setRow wb ka) ((W5.drew.setRow wb ka).setCell ⟨wb+1,0,none⟩ (.int .i64 0)):=(af.ak (aM (wb+1)) _).setCell (p:=⟨wb+1,0,none⟩) (.inl (show aM (wb+1) (wb+1)from rfl)) _;have DP:Box ((W5.drew.setRow wb ka).setCell ⟨wb+1,0,none⟩ (.int .i64 0)) wb 110 ka∧Box ((W5.drew.setRow wb ka).setCell ⟨wb+1,0,none⟩ (.int .i64 0)) (wb+1) 3 #[.int .i64 0]∧ba ((W5.drew.setRow wb ka).setCell ⟨wb+1,0,none⟩ (.int .i64 0)) r 2 (.bool false)∧af aA w ((W5.drew.setRow wb ka).setCell ⟨wb+1,0,none⟩ (.int .i64 0)):=⟨EW.az aX.1 (show¬wb=wb+1 by omega),aX.2.1.store 0 _,EW.cell aX.2.2.1 (show¬r=wb+1 from Pj),aX.2.2.2.aE EW fun k hk=>.inr (by have h1:k=wb+1:=hk;have:=De.out;omega)⟩;clear I2 Je EW;refine lj hK ?_ fun aX=>?_
 ·exact cz
 clear hK;refine jz ?_;have HS:=ae aX;clear aX DQ DP z2;go_wp2_with fail
 (try simp only[Exit.inBlock,Exit.then])
 refine bodyPost_ret (lg rfl _ _ wb _ ka (0,0) _ ⟨wb+1,0,none⟩ (.int .i64 0) rfl HS.1 Tryz.underlying110 rfl bJ rfl (by have hv:=HS.2.1.ag (i:=0) rfl;go_simp)) rfl ?_;exact⟨rfl,HS.2.2.2⟩
end
end Go.Proofs.YtpcfhbeakecihaaGreat

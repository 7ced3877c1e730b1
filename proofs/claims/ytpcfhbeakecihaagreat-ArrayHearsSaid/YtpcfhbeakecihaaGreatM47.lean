/- Lemmas. -/
import Derived.Test.YtpcfhbeakecihaaGreatM43
import Derived.Test.YtpcfhbeakecihaaGreatM46
set_option linter.all false
set_option maxHeartbeats 20000000
set_option maxRecDepth 100000
namespace Go.Proofs.YtpcfhbeakecihaaGreat
open Go.ChangeShapes Go.RowKit Go.WideShapes
structure lu (K:bj) where
 i:K.ι
 ab:Nat
 cb:Nat
 mb:Nat
 sb:Nat
 db:Nat
 lb:Nat
 hv:Value
 QI:Value
 lm:Value
 V:Nat→Value
 D:Int→Option ll
def ke {K:bj}(a:lu K):Nat→Prop:=fun k=>K.F a.i k∨k=a.cb∨k=a.mb∨k=a.ab∨k=a.db∨k=a.lb
structure bM (Z:ZN)(K:bj)(c:aQ)(a:lu K)(M:AM K.σ)(w:World):Prop where
 ak:Box w a.ab 77 (lL c a.QI a.sb a.cb M.down M.reads a.lm)
 jW:bH K a.i w a.cb a.mb c a.hv 3 M.s a.D
 dd:∀b,M.D b=(a.D b).map Prod.fst
 dn:∀b l v,a.D b=some (l,v)→∀k,aJ v k→¬Z.N k
 kj:bX w a.sb a.db a.lb a.V (br c) M.d
 sn:∀i,i<64→∀k,aJ (a.V i) k→¬Z.N k
 bL:0<c.h.length→∀k,aJ a.hv k→k≠a.ab∧k≠a.db∧k≠a.lb
 lo:∀k,ke a k→Z.B≤k
 EY:∀k,Z.N k→k<w.heap.size
 fu:K.Typ
 tX:∀b l,M.D b=some l→jX l
section
variable {Z:ZN}{K:bj}{c:aQ}{a:lu K}{M:AM K.σ}{w w':World}{S:Nat→Prop}
theorem bM.right (h:bM Z K c a M w):dp c:=h.jW.right
def aa4:List TypeId:=GD ++ [106,77,66,35]
theorem bM.Ns (h:bM Z K c a M w){k:Nat}(hk:ke a k){t:TypeId}{cs:Array Value}(hb:Box w k t cs):t∈aa4:=by
 rcases hk with e|e|e|e|e|e
 ·exact List.mem_append_left _ (h.fu _ _ _ h.jW.ord k e t cs hb)
 ·rw[e]at hb;rw[(hb.same h.jW.ak).1];decide
 ·exact absurd e (h.jW.map.ne hb)
 ·rw[e]at hb;rw[(hb.same h.ak).1];decide
 ·rw[e]at hb;rw[(hb.same h.kj.lH.ak).1];decide
 ·rw[e]at hb;rw[(hb.same h.kj.lH.row).1];decide
theorem bM.GF (h:bM Z K c a M w){k:Nat}{t:TypeId}{cs:Array Value}(hb:Box w k t cs)(ht:t∉GD):¬Ft (K.F a.i) a.mb k:=by
 rintro(e|e)
 ·exact ht (h.fu _ _ _ h.jW.ord k e t cs hb)
 ·exact h.jW.map.ne hb e
theorem bM.noU (h:bM Z K c a M w){k:Nat}(hk:ke a k):∀cs,¬Box w k 5 cs:=fun cs hb=>absurd (h.Ns hk hb) aE
theorem bM.wr (h:bM Z K c a M w):Wr Z (ke a) w:=fun k _ hk=>⟨h.lo k hk,.inr (h.noU hk)⟩
theorem bM.RW (h:bM Z K c a M w){k:Nat}(hk:ke a k):k<w.heap.size:=by
 rcases hk with e|e|e|e|e|e
 ·exact(K.oc a.i).lt h.jW.ord k e
 ·rw[e];exact h.jW.ak.lt
 ·rw[e];exact h.jW.map.lt
 ·rw[e];exact h.ak.lt
 ·rw[e];exact h.kj.lH.ak.lt
 ·rw[e];exact h.kj.lH.row.lt
theorem bM.off (h:bM Z K c a M w)(ho:af S w w')(hS:Wr Z S w)(hW:∀k,ke a k→¬S k)(hs:¬S a.sb)(hH:0<c.h.length→∀k,aJ a.hv k→¬S k):bM Z K c a M w' where
 ak:=ho.ak h.ak (hW _ (.inr (.inr (.inr (.inl rfl)))))
 jW:=h.jW.off ho (fun k hk=>hW k (.inl hk)) (hW _ (.inr (.inl rfl))) (hW _ (.inr (.inr (.inl rfl)))) (fun b l v hb k hk=>hS.off (.inr ⟨(h.jW.kz b l v hb).row.2 k hk,h.dn b l v hb k hk⟩) (h.jW.ltD hb k hk)) hH
 dd:=h.dd
 dn:=h.dn
 kj:=h.kj.ar ho fun k hk=>by
  rcases hk with e|e|e|⟨i,hi,e⟩
  ·rw[e];exact hs
  ·rw[e];exact hW _ (.inr (.inr (.inr (.inr (.inl rfl)))))
  ·rw[e];exact hW _ (.inr (.inr (.inr (.inr (.inr rfl)))))
  ·exact hS.off (.inr ⟨h.kj.lH.u8 i hi k e,h.sn i hi k e⟩) (h.kj.lH.off i hi k e).2.2
 sn:=h.sn
 bL:=h.bL
 lo:=h.lo
 EY:=fun k hk=>Nat.lt_of_lt_of_le (h.EY k hk) ho.size
 fu:=h.fu
 tX:=h.tX
theorem bM.keep (h:bM Z K c a M w)(ho:af au w w'):bM Z K c a M w':=h.off ho Wr.non (fun _ _=>id) id fun _ _ _=>id
theorem bM.zy (h:bM Z K c a M w){s':K.σ}{D':Int→Option ll}{P:Int→Option (List Int)}(hc:bH K a.i w' a.cb a.mb c a.hv 3 s' D')(ho:af (Ft (K.F a.i) a.mb) w w')(hd:∀b,P b=(D' b).map Prod.fst)
 (hn:∀b l v,D' b=some (l,v)→∀k,aJ v k→¬Z.N k) (hi:∀b l,P b=some l→jX l):bM Z K c {a with D:=D'} {M with s:=s',D:=P} w' where
 ak:=ho.ak h.ak (h.GF h.ak aE)
 jW:=hc
 dd:=hd
 dn:=hn
 kj:=h.kj.ar ho fun k hk=>by
  rcases hk with e|e|e|⟨i,hi,e⟩
  ·rw[e];exact h.GF h.kj.ak aE
  ·rw[e];exact h.GF h.kj.lH.ak aE
  ·rw[e];exact h.GF h.kj.lH.row aE
  ·obtain⟨cs,hb⟩:=h.kj.lH.u8 i hi k e;exact h.GF hb aE
 sn:=h.sn
 bL:=h.bL
 lo:=h.lo
 EY:=fun k hk=>Nat.lt_of_lt_of_le (h.EY k hk) ho.size
 fu:=h.fu
 tX:=hi
theorem ke.cf {k:Nat}(h:Ft (K.F a.i) a.mb k):ke a k:=h.elim .inl fun e=>.inr (.inr (.inl e))
theorem jH{P:Prop}(h:P:=by
 rcases e with e|e
 ·rw[e]at hb;exact absurd (hb.same h.kj.lH.ak).1 aE
 ·rw[e]at hb;exact absurd (hb.same h.kj.lH.row).1 aE):P:=h
theorem bM.Rp (h:bM Z K c a M w){d':bC}(hp:hX a.sb a.db a.lb a.V (br c) d' w w'):∃V',bM Z K c {a with V:=V'} {M with d:=d'} w':=by
 obtain⟨V',hs,UT,ho⟩:=hp;have hu:∀k,(∃cs,Box w k 5 cs)→¬(k=a.db∨k=a.lb):=fun k ⟨cs,hb⟩ e=>by
  exact jH
 have hF:∀k,K.F a.i k→¬(k=a.db∨k=a.lb):=fun k hk e=>by
  rcases e with e|e
  ·rw[e]at hk;exact absurd (h.fu _ _ _ h.jW.ord _ hk _ _ h.kj.lH.ak) aE
  ·rw[e]at hk;exact absurd (h.fu _ _ _ h.jW.ord _ hk _ _ h.kj.lH.row) aE
 have jV:¬(a.cb=a.db∨a.cb=a.lb):=fun e=>by
  have hb:=h.jW.ak;exact jH
 have fS:¬(a.ab=a.db∨a.ab=a.lb):=fun e=>by
  have hb:=h.ak;exact jH
 have tY:¬(a.mb=a.db∨a.mb=a.lb):=fun e=>by
  rcases e with e|e
  ·exact h.jW.map.ne h.kj.lH.ak e.symm
  ·exact h.jW.map.ne h.kj.lH.row e.symm
 exact⟨V',{
  ak:=ho.ak h.ak fS
  jW:=h.jW.off ho hF jV tY (fun b l v hb k hk=>hu k ((h.jW.kz b l v hb).row.2 k hk)) fun h0 k hk e=>by have:=h.bL h0 k hk;exact e.elim this.2.1 this.2.2
  dd:=h.dd
  dn:=h.dn
  kj:=hs
  sn:=fun i hi k hk hz=>by
   have h3:=hs.lH.off i hi k hk;rcases UT k (.inr (.inr ⟨i,hi,hk⟩))with e|e
   ·rcases e with e|e|⟨j,hj,e⟩
    ·exact h3.1 e
    ·exact h3.2.1 e
    ·exact h.sn j hj k e hz
   ·have:=h.EY k hz;omega
  bL:=h.bL
  lo:=h.lo
  EY:=fun k hk=>Nat.lt_of_lt_of_le (h.EY k hk) ho.size
  fu:=h.fu
  tX:=h.tX}⟩
def lM (Z:ZN)(K:bj)(c:aQ)(a:lu K)(M':AM K.σ)(w w':World):Prop:=∃D' V',bM Z K c {a with D:=D',V:=V'} M' w'∧af (ke a) w w'
end
section
variable {Z:ZN}{K:bj}{c:aQ}{a:lu K}{M M':AM K.σ}{T:List PM}{w w1 w':World}
theorem lM.back (ho:af au w w1)(h:lM Z K c a M' w1 w'):lM Z K c a M' w w':=by
 obtain⟨D',V',h1,h2⟩:=h;exact⟨D',V',h1,(ho.mono (S':=ke a) fun _ hk=>hk.elim).aG h2 fun k hk=>.inl hk⟩
theorem lM.keep {w2:World}(h:lM Z K c a M' w w')(ho:af au w' w2):lM Z K c a M' w w2:=by
 obtain⟨D',V',h1,h2⟩:=h;exact⟨D',V',h1.keep ho,h2.aG ho fun _ hk=>hk.elim⟩
theorem lM.nil (h:bM Z K c a M w)(ho:af au w w'):lM Z K c a M w w':=⟨a.D,a.V,h.keep ho,ho.mono fun _ hk=>hk.elim⟩
theorem bM.zb (h:bM Z K c a M w):Z.B≤w.heap.size:=Nat.le_trans (h.lo a.ab (.inr (.inr (.inr (.inl rfl))))) (Nat.le_of_lt h.ak.lt)
theorem bM.msgs {base:Nat}{v:Value}{L:List PM}(h:bM Z K c a M w)(hm:bO Z w base v L)(hb:Z.B≤base)(hh:0<c.h.length→∀k,aJ a.hv k→k<base)(ho:af (aJ v) w w'):bM Z K c a M w':=
 h.off ho (hm.wr hb) (fun k hk e=>by obtain⟨_,cs,hx⟩:=hm.ak e;exact absurd (h.Ns hk hx) aE) (fun e=>by obtain⟨_,cs,hx⟩:=hm.ak e;exact absurd (hx.same h.kj.ak).1 aE) fun h0 k hk e=>by have:=hh h0 k hk;have:=(hm.ak e).1;omega
theorem bM.aY (h:bM Z K c a M w):0<c.h.length→∀k,aJ a.hv k→k<w.heap.size:=fun h0 k hk=>h.jW.ltH h0 k hk
end
def uz (Z:ZN)(K:bj)(c:aQ)(a:lu K)(M':AM K.σ)(T:List PM)(w:World)(e:Ending)(w':World):Prop:=∃v,e= .returned v∧bO Z w' w.heap.size v T∧lM Z K c a M' w w'
theorem Y3 (v:Int):bd (AR 14 0 0 0 0 v 0 false []).m aT=#[ah 14,ah 0,ah 0,ah 0,ah 0,ah v,ah 0,ah 0,ah 0,.bool false,aT]:=rfl
theorem Ly {K:bj}{i:K.ι}{w:World}{cb mb:Nat}{c:aQ}{hv:Value}{aP:Nat}{s:K.σ}{D:Int→Option ll}(h:bH K i w cb mb c hv aP s D)(g:Bool)(v:Int):∃A n m,su D g v= .slice A n m:=by
 unfold su
 split
 ·cases hd:D v with
  |none=>exact⟨_,_,_,rfl⟩
  |some p=>
   obtain⟨l,x⟩:=p;obtain⟨_,_,g,ca,e,_⟩:=h.kz v l x hd;exact⟨_,_,_,e⟩
 ·exact⟨_,_,_,rfl⟩
section
variable {Z:ZN}{c:aQ}{hP:dp c}{hk:2<3}{a:lu (bg c 2 hP hk)}{M:AM (bg c 2 hP hk).σ}{w:World}{b lev:Int}{t:List Int}{dv:Value}
theorem bM.put (h:bM Z (bg c 2 hP hk) c a M w)(hz:dF c 2 b t.length lev=0)(hB:jX t){w':World}{vv:Value}
 (hc:bH (bg c 2 hP hk) a.i w' a.cb a.mb c a.hv 3 ((bg c 2 hP hk).sp.add M.s b).1 (GC a.D ((bg c 2 hP hk).sp.add M.s b).2.2 ((bg c 2 hP hk).sp.add M.s b).2.1 b (t,vv))) (hv:∀k,aJ vv k→w.heap.size≤k) (ho:af (Ft ((bg c 2 hP hk).F a.i) a.mb) w w'):
 lM Z (bg c 2 hP hk) c a (dz (bg c 2 hP hk).sp c M b t lev) w w':=by
 have e:dz (bg c 2 hP hk).sp c M b t lev= {M with s:=((bg c 2 hP hk).sp.add M.s b).1,D:=aV (if((bg c 2 hP hk).sp.add M.s b).2.2=true then aV M.D ((bg c 2 hP hk).sp.add M.s b).2.1 none else M.D) b (some t)}:=by
  unfold dz;rw[if_neg (fun h=>h hz)]
 rw[e];have hold:∀y l v,(if((bg c 2 hP hk).sp.add M.s b).2.2=true then aV a.D ((bg c 2 hP hk).sp.add M.s b).2.1 none else a.D) y=some (l,v)→a.D y=some (l,v):=fun y l v hy=>by
  split at hy
  ·unfold aV at hy
   split at hy
   ·cases hy
   ·exact hy
  ·exact hy
 refine⟨_,a.V,h.zy hc ho (fun y=>?_) (fun y l v hy k AX yO=>?_) (fun y l hy=>?_),ho.mono fun k hk=>.inl (ke.cf hk)⟩
 ·unfold GC aV
  by_cases e1:y=b
  ·rw[if_pos e1,if_pos e1];rfl
  ·rw[if_neg e1,if_neg e1]
   by_cases e2:((bg c 2 hP hk).sp.add M.s b).2.2=true
   ·rw[if_pos e2,if_pos e2]
    by_cases e3:y=((bg c 2 hP hk).sp.add M.s b).2.1
    ·rw[if_pos e3,if_pos e3];rfl
    ·rw[if_neg e3,if_neg e3];exact h.dd y
   ·rw[if_neg e2,if_neg e2];exact h.dd y
 ·unfold GC at hy
  by_cases e1:y=b
  ·rw[e1,aV,if_pos rfl]at hy;injection hy with hy;injection hy with _ hy;subst hy;have h1:=h.EY k yO;have h2:=hv k AX;omega
  ·rw[aV,if_neg e1]at hy;exact h.dn y l v (hold y l v hy) k AX yO
 ·unfold aV at hy
  split at hy
  ·injection hy with hy;rw[←hy];exact hB
  ·split at hy
   ·have hy:(if y=((bg c 2 hP hk).sp.add M.s b).2.1 then none else M.D y)=some l:=hy
    split at hy
    ·cases hy
    ·exact h.tX y l hy
   ·exact h.tX y l hy
theorem zR (h:bM Z (bg c 2 hP hk) c a M w)(hd:qR Z w dv t)(hB:jX t)(cV:(bg c 2 hP hk).sp.jf M.s<da):
 Calls Tryz.prog 66 #[aO a.ab,ah b,ah lev,dv] w (uz Z (bg c 2 hP hk) c a (dz (bg c 2 hP hk).sp c M b t lev) (lP (bg c 2 hP hk).sp c M b t lev) w):=by
 have ZZ:aM w a.ab 18 (aO a.cb):=h.ak.ag rfl;have x4:aF w a.ab 4 (c.f 4):=h.ak.ag (xR c _ _ _ _ _ _ aE);obtain⟨A,n,Ay⟩:=hd.shape;have SK:0<t.length→∀j,aJ dv j→¬(bg c 2 hP hk).F a.i j∧j≠a.mb:=fun h0 j hj=>by
  have:=h.wr.off (hd.2 h0 j hj) (zz hd.1 h0 j hj);exact⟨fun e=>this (.inl e),fun e=>this (.inr (.inr (.inl e)))⟩
 have HH:=ae h;have HB:=ae hB
 by_cases hc:dF c 2 b t.length lev=0
 ·have hz:=ki hc;have MY:=hP.p3;have HC:=L4 h.jW hd.1 (SK aj) lev hc cV;have HCO:=ae hc;obtain⟨Av,nv,mv,V0⟩:=Ly h.jW ((bg c 2 hP hk).sp.add M.s b).2.2 ((bg c 2 hP hk).sp.add M.s b).2.1;have HT:=aq (lP (bg c 2 hP hk).sp c M b t lev=if((bg c 2 hP hk).sp.add M.s b).2.2=true∧c.f 4=1 then[AR 14 0 0 0 0 ((bg c 2 hP hk).sp.add M.s b).2.1 0 false []]else[]) (by unfold lP;rw[if_neg (fun h=>h hc)]);have me:=ae<|fun w' vv wW M0 ho=>h.put (w':=w') (vv:=vv) hc hB wW M0 ho;have acR:=aq (b<64∧0≤b) (by have:=hP.p2;omega);subst Ay;unfold uR at HC;rw[V0]at HC;clear V0;generalize(bg c 2 hP hk).sp.add M.s b=r at *;obtain⟨s1,v1,g1⟩:=r;dsimp only at *;have HC:=ae HC;generalize c.f 4=f4 at *;clear h hd hB cV SK hc hz MY
  go_enter Tryz.func66,Tryz.ntmps66
  go_upto_region 2 with(first|(go_at_call 101;refine HC.mono ?_;rintro e w1 ⟨vv,rfl,wW,M0,ho⟩;have Fi:=ae<|me w1 vv wW M0 ho;have bc:=ae ho;clear wW M0)|(refine wpList_store_row rfl 87 _ _ rfl w1.heap.size #[ah v1,(.slice Av nv mv)] rfl rfl 87 #[ah 0,aT] (Box.fresh w1 _ _) aS rfl aU ?_));have al:=(af.ai au w1).alloc (.cells #[ah 0,aT] 87);have dG:=ae<|(Box.fresh w1 87 #[ah 0,aT]).aw #[ah v1,(.slice Av nv mv)];have bu:=ae<|al.aw (.inr (dX _)) #[ah v1,(.slice Av nv mv)];clear al;generalize(w1.alloc (.cells #[ah 0,aT] 87)).setRow w1.heap.size #[ah v1,(.slice Av nv mv)]=W2 at *;generalize w1.heap.size=fb at *;have x4:aF W2 a.ab 4 f4:=bu.cell (bc.cell x4 (HH.GF HH.ak aE)) id;have y0:aF W2 fb 0 v1:=dG.ag rfl
  cases g1 with
  |false=>
   have Sn:=ae<|HT.trans (if_neg fun h=>by cases h.1);go_wp2_with fail;go_ret;exact⟨_,rfl,by rw[Sn.out];exact bO.nil _ _ _,Fi.keep bu⟩
  |true=>
   by_cases h4:f4=1
   ·have WK:(f4==1)=true:=by rw[h4];rfl
    have Sn:=ae<|HT.trans (if_pos ⟨rfl,h4⟩);clear h4;go_wp2_with fail;go_ret;have hsz:=bc.size;have uC:=bu.size;exact⟨_,rfl,by rw[Sn.out];exact bO.one (base:=w.heap.size) (AR 14 0 0 0 0 v1 0 false []) (Y3 v1) (qR.nil _ _) rfl aj,(Fi.keep bu).keep ((af.ai au W2).alloc _)⟩
   ·have WK:(f4==1)=false:=by simpa using h4
    have Sn:=ae<|HT.trans (if_neg fun h=>h4 h.2);clear h4;go_wp2_with fail;go_ret;exact⟨_,rfl,by rw[Sn.out];exact bO.nil _ _ _,Fi.keep bu⟩
 ·have HC:=CK h.jW hd.1 lev hc;have HE:=aq (dz (bg c 2 hP hk).sp c M b t lev=M∧lP (bg c 2 hP hk).sp c M b t lev= []) (⟨by unfold dz;rw[if_pos hc],by unfold lP;rw[if_pos hc]⟩);rw[HE.1,HE.2];subst Ay;generalize dF c 2 b t.length lev=pc at *;have HC:=ae HC;unfold zF at HC;generalize c.f 4=f4 at *;clear h hd hB cV SK hc
  go_enter Tryz.func66,Tryz.ntmps66
  go_upto_region 2 with(first|(go_at_call 101;refine HC.mono ?_;rintro e w1 ⟨rfl,ho⟩;have bc:=ae ho;clear ho)|(refine wpList_store_row rfl 87 _ _ rfl w1.heap.size #[ah 0,aT] rfl rfl 87 #[ah 0,aT] (Box.fresh w1 _ _) aS rfl aU ?_));have al:=(af.ai au w1).alloc (.cells #[ah 0,aT] 87);have bu:=ae<|bc.trans (al.aw (.inr (dX _)) #[ah 0,aT]);clear al;generalize(w1.alloc (.cells #[ah 0,aT] 87)).setRow w1.heap.size #[ah 0,aT]=W2 at *;go_wp2_with fail;go_ret;exact⟨_,rfl,bO.nil _ _ _,a.D,a.V,HH.keep bu,bu.mono fun k hk=>hk.elim⟩
end
section
variable {Z:ZN}{K:bj}{c:aQ}{a:lu K}{M M':AM K.σ}{T:List PM}{w w1 w':World}
theorem uz.back (ho:af au w w1){e:Ending}(h:uz Z K c a M' T w1 e w'):uz Z K c a M' T w e w':=by
 obtain⟨v,h1,h2,h3⟩:=h;exact⟨v,h1,h2.low ho.size,h3.back ho⟩
end
section
variable {Z:ZN}{K:bj}{c:aQ}{a:lu K}{M:AM K.σ}{w:World}{b lev:Int}{t:List Int}{dv:Value}
theorem tS (h:bM Z K c a M w)(b:Int):Calls Tryz.prog 67 #[aO a.cb,ah b] w fun e w'=>(∃u,e= .returned u)∧lM Z K c a (dC K.sp M b) w w':=by
 cases hd:a.D b with
 |none=>
  have e:dC K.sp M b=M:=by unfold dC;rw[if_neg (by rw[h.dd,hd];decide)]
  rw[e];exact(CX h.jW hd).mono fun e w' ⟨he,ho⟩=>⟨⟨_,he⟩,lM.nil h ho⟩
 |some p=>
  obtain⟨l,v⟩:=p;have e:dC K.sp M b= {M with s:=K.sp.rem M.s b,D:=aV M.D b none}:=by unfold dC;rw[if_pos (by rw[h.dd,hd];rfl)]
  rw[e];refine(CZ h.jW hd).mono fun e w' ⟨he,hc,_,ho⟩=>⟨⟨_,he⟩,_,a.V,h.zy hc ho (fun y=>?_) (fun y l v hy=>?_) (fun y l hy=>?_),ho.mono fun k hk=>.inl (ke.cf hk)⟩
  ·unfold aV
   split
   ·rfl
   ·exact h.dd y
  ·unfold aV at hy
   split at hy
   ·cases hy
   ·exact h.dn y l v hy
  ·unfold aV at hy
   split at hy
   ·cases hy
   ·exact h.tX y l hy
end
section
variable {Z:ZN}{c:aQ}{hP:dp c}{hk:2<3}{a:lu (bg c 2 hP hk)}{M:AM (bg c 2 hP hk).σ}{w:World}{b lev:Int}{t:List Int}{dv:Value}
theorem vW (h:bM Z (bg c 2 hP hk) c a M w)(hd:qR Z w dv t)(hB:jX t)(cV:(bg c 2 hP hk).sp.jf M.s<da):
 Calls Tryz.prog 64 #[aO a.ab,ah b,ah lev,dv] w (uz Z (bg c 2 hP hk) c a (bU (bg c 2 hP hk).sp c M b t lev) (cU (bg c 2 hP hk).sp c M b t lev) w):=by
 have ZZ:aM w a.ab 18 (aO a.cb):=h.ak.ag rfl;have x4:aF w a.ab 4 (c.f 4):=h.ak.ag (xR c _ _ _ _ _ _ aE);obtain⟨A,n,Ay⟩:=hd.shape;have HH:=ae h
 by_cases h4:c.f 4=2
 ·have pF:=ae<|tz (k:=2) b lev h.jW;rw[h4]at x4
  by_cases hl:lev=3
  ·have QQ:(lev==3)=true:=by rw[hl];rfl
   cases ht:cg c 2 b lev with
   |true=>
    have Ds:=ae<|fun w1 ho=>zR (b:=b) (lev:=lev) (h.keep (w':=w1) ho) (hd.keep ho) hB cV;have HE:=aq (bU (bg c 2 hP hk).sp c M b t lev=dz (bg c 2 hP hk).sp c M b t lev∧cU (bg c 2 hP hk).sp c M b t lev=lP (bg c 2 hP hk).sp c M b t lev) (⟨by unfold bU;rw[if_pos (.inr ⟨hl,ht⟩)],by unfold cU;rw[if_pos (.inr ⟨hl,ht⟩)]⟩);rw[ht]at pF;subst Ay;clear h hd hB cV hl ht h4;rw[HE.1,HE.2]
    go_enter Tryz.func64,Tryz.ntmps64
    go_wp2_with (first|(go_at_call 98;refine pF.mono ?_;rintro e w1 ⟨rfl,aK⟩;have bc:=ae aK;have Fi:=ae<|Ds w1 aK;clear aK)|(go_at_call 66;refine Fi.mono ?_;rintro e w2 ⟨v,rfl,hm,hp⟩));go_ret;exact uz.back bc (show uz Z _ c a _ _ w1 _ w2 from⟨v,rfl,hm,hp⟩)
   |false=>
    have HE:=aq (bU (bg c 2 hP hk).sp c M b t lev=dC (bg c 2 hP hk).sp M b∧cU (bg c 2 hP hk).sp c M b t lev= []) (⟨by unfold bU;rw[if_neg (fun e=>e.elim (fun e=>e h4) fun e=>by rw[ht]at e;cases e.2)],by unfold cU;rw[if_neg (fun e=>e.elim (fun e=>e h4) fun e=>by rw[ht]at e;cases e.2)]⟩);have HDP:=ae<|fun w1 ho=>tS (h.keep (w':=w1) ho) b;rw[ht]at pF;subst Ay;clear h hd hB cV hl ht h4;rw[HE.1,HE.2]
    go_enter Tryz.func64,Tryz.ntmps64
    go_wp2_with (first|(go_at_call 98;refine pF.mono ?_;rintro e w1 ⟨rfl,aK⟩;have bc:=ae aK;have Ki:=ae<|HDP w1 aK;have ZZ:aM w1 a.ab 18 (aO a.cb):=(HH.keep aK).ak.ag rfl;clear aK)|(go_at_call 67;refine Ki.mono ?_;rintro e w2 ⟨⟨u,rfl⟩,hp⟩));go_ret;exact⟨_,rfl,bO.nil _ _ _,hp.back bc⟩
  ·have QQ:(lev==3)=false:=by simpa using hl
   have HE:=aq (bU (bg c 2 hP hk).sp c M b t lev=dC (bg c 2 hP hk).sp M b∧cU (bg c 2 hP hk).sp c M b t lev= []) (⟨by unfold bU;rw[if_neg (fun e=>e.elim (fun e=>e h4) fun e=>hl e.1)],by unfold cU;rw[if_neg (fun e=>e.elim (fun e=>e h4) fun e=>hl e.1)]⟩);have HDP:=ae<|tS h b;subst Ay;clear h hd hB cV hl h4;rw[HE.1,HE.2]
   go_enter Tryz.func64,Tryz.ntmps64
   go_wp2_with (go_at_call 67;refine HDP.mono ?_;rintro e w2 ⟨⟨u,rfl⟩,hp⟩);go_ret;exact⟨_,rfl,bO.nil _ _ _,hp⟩
 ·have WK:(c.f 4 != 2)=true:=by simpa using h4
  have HE:=aq (bU (bg c 2 hP hk).sp c M b t lev=dz (bg c 2 hP hk).sp c M b t lev∧cU (bg c 2 hP hk).sp c M b t lev=lP (bg c 2 hP hk).sp c M b t lev) (⟨by unfold bU;rw[if_pos (.inl h4)],by unfold cU;rw[if_pos (.inl h4)]⟩);have Ds:=ae<|zR (b:=b) (lev:=lev) h hd hB cV;subst Ay;rw[HE.1,HE.2];generalize c.f 4=f4 at *;clear h hd hB cV h4
  go_enter Tryz.func64,Tryz.ntmps64
  go_wp2_with (go_at_call 66;refine Ds.mono ?_;rintro e w2 ⟨v,rfl,hm,hp⟩);go_ret;exact⟨v,rfl,hm,hp⟩
end
theorem Jf {size:Nat}{b:List Int}(h:jX b):jX (bD size b).2:=by
 unfold bD
 split
 ·exact BU h
 ·intro x hx;have:=List.eq_of_mem_replicate hx;omega
theorem Jm {σ:Type}{sp:pQ σ}{c:aQ}{M:AM σ}{b lev:Int}{t:List Int}:(lP sp c M b t lev).length≤1:=by
 unfold lP
 split
 ·exact fH _
 ·split
  ·exact dX _
  ·exact fH _
theorem r7 {σ:Type}{sp:pQ σ}{c:aQ}{M:AM σ}{b lev:Int}{t:List Int}:(cU sp c M b t lev).length≤1:=by
 unfold cU
 split
 ·exact Jm
 ·exact fH _
section
section
variable {Z:ZN}{K:bj}{c:aQ}{a:lu K}{M:AM K.σ}{w w':World}{m:dI}{A:Option Addr}{n cp:Nat}
theorem mV{P:Prop}(h:P:=by
 exact {ak:=py,jW:=h.jW.off ho (fun k hk e=>by have e:k=a.ab:=e;subst e;exact absurd (h.fu _ _ _ h.jW.ord _ hk _ _ h.ak) aE) (hne _ _ _ h.jW.ak aE) (fun e=>h.jW.map.ne h.ak (show a.mb=a.ab from e).symm) (fun b l v hb k hk=>by obtain⟨cs,hx⟩:=(h.jW.kz b l v hb).row.2 k hk;exact hne _ _ _ hx aE) fun h0 k hk=>(h.bL h0 k hk).1,dd:=h.dd,dn:=h.dn,kj:=hso,sn:=h.sn,bL:=h.bL,lo:=h.lo,EY:=fun k hk=>Nat.lt_of_lt_of_le (h.EY k hk) ho.size,fu:=h.fu,tX:=h.tX}):P:=h
theorem o4{P:Prop}(h:P:=by
 rcases hk with e|e|e|⟨i,hi,e⟩
 ·rw[e];exact hne _ _ _ h.kj.ak aE
 ·rw[e];exact hne _ _ _ h.kj.lH.ak aE
 ·rw[e];exact hne _ _ _ h.kj.lH.row aE
 ·obtain⟨cs,hx⟩:=h.kj.lH.u8 i hi k e;exact hne _ _ _ hx aE):P:=h
theorem bM.aaw (h:bM Z K c a M w)(ho:af (az a.ab) w (w.setCell ⟨a.ab,20,none⟩ (ah ((M.reads:Int)+1)))):bM Z K c a (lQ M) (w.setCell ⟨a.ab,20,none⟩ (ah ((M.reads:Int)+1))):=by
 have py:Box (w.setCell ⟨a.ab,20,none⟩ (ah ((M.reads:Int)+1))) a.ab 77 (lL c a.QI a.sb a.cb M.down ((M.reads+1:Nat):Int) a.lm):=by
  have:=h.ak.store 20 (ah ((M.reads:Int)+1));exact this
 have hne:∀k t cs,Box w k t cs→t≠77→k≠a.ab:=fun k t cs hb ht e=>by rw[e]at hb;exact ht (hb.same h.ak).1
 have hso:bX (w.setCell ⟨a.ab,20,none⟩ (ah ((M.reads:Int)+1))) a.sb a.db a.lb a.V (br c) M.d:=h.kj.ar ho fun k hk=>by
  exact o4
 exact mV
theorem zG (h:bM Z K c a M w){b:Int}(hb:0≤b∧b<c.f 2):
 Calls Tryz.prog 31 #[aO a.sb,ah b] w fun e w'=>∃v,e= .returned (.tuple #[v,ah (ec c M b).1,ah 0])∧Row 5 w' v (bytes (ec c M b).2)∧af au w w'∧∀k,aJ v k→w.heap.size≤k:=by
 obtain⟨k,rfl⟩:=Int.eq_ofNat_of_zero_le hb.1;have hp:=h.right.p3;exact BR (sh:=br c) (b:=k) (size:=(c.f 3).toNat) hb.2 (by show c.f 3=_;omega) h.kj
theorem MS (h:bM Z K c a M w):
 Calls Tryz.prog 36 #[aO a.ab,.agg (bd m (.slice A n cp))] w (uz Z K c a (dC K.sp M (m.f 5)) [] w):=by
 have HH:=ae h;clear h
 go_enter Tryz.func36,Tryz.ntmps36
 go_upto_region 1 with fail;have ho:=(af.ai au w).alloc (.cells (bd m (.slice A n cp)) 37);have HQ:=ae<|Box.fresh w 37 (bd m (.slice A n cp));have bc:=ae ho;have H1:=ae<|HH.keep ho;change Code.wp _ _ _ _ (w.alloc (.cells (bd m (.slice A n cp)) 37));clear ho;generalize w.alloc (.cells (bd m (.slice A n cp)) 37)=W1 at *;generalize qY:w.heap.size=qb at *;have xE:=ae qY;clear qY;have d18:aM W1.drew a.ab 18 (aO a.cb):=H1.ak.ag rfl;have d5:aF W1.drew qb 5 (m.f 5):=HQ.ag rfl;have HD:=ae<|tS (H1.keep ((af.ai au W1).drew)) (m.f 5);go_upto_region 1 with fail;refine gg (fun w':World=>aM w' a.ab 18 (aO a.cb)∧aF w' qb 5 (m.f 5)) 6 ?_ ?_
 ·exact⟨d18,d5⟩
 intro aC;refine bE [0,1,2,3,4,5] ?_;refine dE ?_;clear aC d18 d5;go_wp2_with (go_at_call 67;refine HD.mono ?_;rintro e w2 ⟨⟨u,rfl⟩,hp⟩);go_ret;exact⟨_,rfl,bO.nil _ _ _,hp.back bc.drew⟩
end
variable {Z:ZN}{c:aQ}{hP:dp c}{hk:2<3}{a:lu (bg c 2 hP hk)}{M:AM (bg c 2 hP hk).σ}{w:World}{m:dI}{A:Option Addr}{n cp:Nat}{t:List Int}
theorem jU{P:Prop}(h:P:=by rw[←Kd.out];exact xR c _ _ _ _ _ _ aE):P:=h
theorem ER (h:bM Z (bg c 2 hP hk) c a M w)(hd:qR Z w (.slice A n cp) t)(hB:jX t)(cV:(bg c 2 hP hk).sp.jf M.s<da):
 Calls Tryz.prog 35 #[aO a.ab,.agg (bd m (.slice A n cp))] w (uz Z (bg c 2 hP hk) c a (if c.f 4=2∧m.f 6=3 then dz (bg c 2 hP hk).sp c M (m.f 5) t (m.f 6)else M) [] w):=by
 have HH:=ae h;have dx:=ae hd;have yX:=ae hB;have Gv:=ae cV;clear h hd hB cV
 by_cases h4:c.f 4=2
 ·by_cases h6:m.f 6=3
  ·have HE:=aq ((if c.f 4=2∧m.f 6=3 then dz (bg c 2 hP hk).sp c M (m.f 5) t (m.f 6)else M)=dz (bg c 2 hP hk).sp c M (m.f 5) t (m.f 6)) (if_pos ⟨h4,h6⟩);rw[HE.out];have Kd:=ae h4;have Nh:=ae h6;clear h4 h6 HE
   go_enter Tryz.func35,Tryz.ntmps35
   go_upto_region 1 with fail;have ho:=(af.ai au w).alloc (.cells (bd m (.slice A n cp)) 37);have HQ:=ae<|Box.fresh w 37 (bd m (.slice A n cp));have bc:=ae ho;have H1:=ae<|HH.keep ho;change Code.wp _ _ _ _ (w.alloc (.cells (bd m (.slice A n cp)) 37));clear ho;generalize w.alloc (.cells (bd m (.slice A n cp)) 37)=W1 at *;generalize qY:w.heap.size=qb at *;have xE:=ae qY;clear qY;have Ds:=ae<|zR (b:=m.f 5) (lev:=m.f 6) H1 (dx.keep bc) yX Gv;rw[Nh.out]at Ds;have x4:aF W1 a.ab 4 2:=H1.ak.ag jU;have x5:aF W1 qb 5 (m.f 5):=HQ.ag rfl;have x6:aF W1 qb 6 3:=by rw[←Nh.out];exact HQ.ag rfl
   have x10:aM W1 qb 10 (.slice A n cp):=HQ.ag rfl;go_wp2_with (go_at_call 66;refine Ds.mono ?_;rintro e w2 ⟨u,rfl,_,hp⟩);go_ret;rw[←Nh.out]at hp;exact⟨_,rfl,bO.nil _ _ _,hp.back bc⟩
  ·have HE:=aq ((if c.f 4=2∧m.f 6=3 then dz (bg c 2 hP hk).sp c M (m.f 5) t (m.f 6)else M)=M) (if_neg fun e=>h6 e.2);rw[HE.out];have h6b:(m.f 6==3)=false:=by simpa using h6
   have Kd:=ae h4;clear h4 h6 HE
   go_enter Tryz.func35,Tryz.ntmps35
   go_upto_region 1 with fail;have ho:=(af.ai au w).alloc (.cells (bd m (.slice A n cp)) 37);have HQ:=ae<|Box.fresh w 37 (bd m (.slice A n cp));have bc:=ae ho;have H1:=ae<|HH.keep ho;change Code.wp _ _ _ _ (w.alloc (.cells (bd m (.slice A n cp)) 37));clear ho;generalize w.alloc (.cells (bd m (.slice A n cp)) 37)=W1 at *;generalize qY:w.heap.size=qb at *;have xE:=ae qY;clear qY;have x4:aF W1 a.ab 4 2:=H1.ak.ag jU;have x6:aF W1 qb 6 (m.f 6):=HQ.ag rfl;go_wp2_with fail;go_ret;exact⟨_,rfl,bO.nil _ _ _,lM.nil HH bc⟩
 ·have HE:=aq ((if c.f 4=2∧m.f 6=3 then dz (bg c 2 hP hk).sp c M (m.f 5) t (m.f 6)else M)=M) (if_neg fun e=>h4 e.1);rw[HE.out];have WK:(c.f 4==2)=false:=by simpa using h4
  clear h4 HE
  go_enter Tryz.func35,Tryz.ntmps35
  go_upto_region 1 with fail;have ho:=(af.ai au w).alloc (.cells (bd m (.slice A n cp)) 37);have HQ:=ae<|Box.fresh w 37 (bd m (.slice A n cp));have bc:=ae ho;have H1:=ae<|HH.keep ho;change Code.wp _ _ _ _ (w.alloc (.cells (bd m (.slice A n cp)) 37));clear ho;generalize w.alloc (.cells (bd m (.slice A n cp)) 37)=W1 at *;generalize qY:w.heap.size=qb at *;have xE:=ae qY;clear qY;have x4:aF W1 a.ab 4 (c.f 4):=H1.ak.ag (xR c _ _ _ _ _ _ aE);go_wp2_with fail;go_ret;exact⟨_,rfl,bO.nil _ _ _,lM.nil HH bc⟩
theorem jr{P:Prop}(h:P:=by
 go_ret;exact⟨_,rfl,by rw[HE.2];exact KJ.low rf,_,_,by rw[HE.1];exact H8,rA⟩):P:=h
theorem jM{P:Prop}(h:P:=by
 go_wp2_with fail;exact jr):P:=h
theorem pj{P:Prop}(h:P:=by rw[show k=a.ab from hk];exact .inr (.inr (.inr (.inl rfl)))):P:=h
theorem jR{P:Prop}(h:P:=by have h1:=OE.out;have h2:=rf.out;have h3:=xE.out;omega):P:=h
theorem eW{P:Prop}(h:P:=by rw[←List.length_map (f:=Prod.fst),e1]):P:=h
theorem fa{P:Prop}(h:P:=by unfold maxLen;have:=Ve.out;omega):P:=h
theorem adR{P:Prop}(h:P:=by simp[wQ,Value.oneCell']):P:=h
theorem eY{P:Prop}(h:P:=by have:=Ve.out;omega):P:=h
theorem gL{P:Prop}(h:P:=by have:=Gv.out;omega):P:=h
theorem MR (h:bM Z (bg c 2 hP hk) c a M w)(cV:(bg c 2 hP hk).sp.jf M.s+1<da)(E4:M.reads<1000000):
 Calls Tryz.prog 33 #[aO a.ab,.agg (bd m (.slice A n cp))] w (uz Z (bg c 2 hP hk) c a (dr (bg c 2 hP hk).sp c M (m.f 5) (m.f 6)) (gQ (bg c 2 hP hk).sp c M (m.f 5) (m.f 6)) w):=by
 have HH:=ae h;have Gv:=ae cV;have Tc:=ae E4;have OE:=ae h.zb;have GP:=ae h.aY
 cases hD:a.D (m.f 5)with
 |none=>
  have Fb:M.D (m.f 5)=none:=by rw[h.dd,hD];rfl
  have Xe:=ae hD
  by_cases hb:0≤m.f 5∧m.f 5<c.f 2
  ·have Bd:=ae hb;have HE:=aq (dr (bg c 2 hP hk).sp c M (m.f 5) (m.f 6)=bU (bg c 2 hP hk).sp c (lQ M) (m.f 5) (ec c M (m.f 5)).2 (m.f 6)∧gQ (bg c 2 hP hk).sp c M (m.f 5) (m.f 6)=cU (bg c 2 hP hk).sp c (lQ M) (m.f 5) (ec c M (m.f 5)).2 (m.f 6) ++ [AR 12 0 0 0 0 (m.f 5) 0 false (ec c M (m.f 5)).2]) (⟨by unfold dr;rw[Fb];exact if_pos hb,by unfold gQ;rw[Fb];exact if_pos hb⟩);have AF:=aq ((ec c M (m.f 5)).2.length≤16) (by unfold ec;rw[lZ];have:=hP.p3;omega);have Gn:=aq (jX (ec c M (m.f 5)).2) (Jf (h.kj.tX _));clear h cV E4 hD Fb hb
   go_enter Tryz.func33,Tryz.ntmps33
   go_upto_region 1 with fail;have ho:=(af.ai au w).alloc (.cells (bd m (.slice A n cp)) 37);have HQ:=ae<|Box.fresh w 37 (bd m (.slice A n cp));have bc:=ae ho;have H1:=ae<|HH.keep ho;change Code.wp _ _ _ _ (w.alloc (.cells (bd m (.slice A n cp)) 37));clear ho;generalize w.alloc (.cells (bd m (.slice A n cp)) 37)=W1 at *;generalize qY:w.heap.size=qb at *;have xE:=ae qY;clear qY;have HU:=ae<|rX (H1.keep ((af.ai au W1).drew)).jW Xe;have d18:aM W1.drew a.ab 18 (aO a.cb):=H1.ak.ag rfl;have d5:aF W1.drew qb 5 (m.f 5):=HQ.ag rfl;go_upto_region 1 with fail;refine gg (fun w':World=>aM w' a.ab 18 (aO a.cb)∧aF w' qb 5 (m.f 5)) 11 ?_ ?_
   ·first|exact r9|exact⟨d18,d5⟩
   intro aC;refine bE [0,1,2,3,4,5] ?_;refine cX 6 fun Kc hK=>?_
   go_simp;refine HU.mono ?_;rintro e W2 ⟨rfl,bq⟩;have r9:aM W2 a.ab 18 (aO a.cb)∧aF W2 qb 5 (m.f 5):=⟨bq.cell d18 id,bq.cell d5 id⟩;have bu:=ae<|(bc.drew).trans bq;have H2:=ae<|(H1.keep ((af.ai au W1).drew)).keep bq;have qQ:=ae<|bq.ak HQ.drew id;clear bq;refine dy hK ?_ fun aC=>?_
   ·first|exact r9|exact⟨d18,d5⟩
   clear hK;refine bE [7,8,9,10] ?_;refine dE ?_;clear aC r9 d18 d5;have HR:=ae<|zG (H2.keep ((af.ai au W2).drew)) Bd;have d17:aM W2.drew a.ab 17 (aO a.sb):=H2.ak.ag rfl;have d5:aF W2.drew qb 5 (m.f 5):=qQ.ag rfl;go_upto_region 3 with fail;refine gg (fun w':World=>aM w' a.ab 17 (aO a.sb)∧aF w' qb 5 (m.f 5)) 13 ?_ ?_
   ·first|exact uF|exact⟨d17,d5⟩
   intro aC;refine bE [0,1,2,3,4,5] ?_;refine cX 6 fun Kc hK=>?_
   go_simp;refine HR.mono ?_;rintro e W3 ⟨vv,rfl,wK,bV,hf3⟩;have uF:aM W3 a.ab 17 (aO a.sb)∧aF W3 qb 5 (m.f 5):=⟨bV.cell d17 id,bV.cell d5 id⟩;have bI:=ae<|(bu.drew).trans bV;have H3:=ae<|(H2.keep ((af.ai au W2).drew)).keep bV;have Gp:=ae<|bV.ak qQ.drew id;have HD3:=ae (qR.row (Z:=Z) wK (by have:=AF.out;omega) fun k hk hz=>by have h1:=H2.EY k hz;have h2:W2.heap.size≤k:=hf3 k hk;omega);obtain⟨Av,cv,uB,_,_⟩:=wK.shape;have HVS:=aq (∃A n c,vv= .slice A n c) (⟨_,_,_,uB⟩);clear bV wK hf3 uB;refine dy hK ?_ fun aC=>?_
   ·first|exact uF|exact⟨d17,d5⟩
   clear hK;refine bE [7,8,9,10,11,12] ?_;refine dE ?_;clear aC uF d17 d5;have y20:aF W3 a.ab 20 M.reads:=H3.ak.ag rfl;have g20:W3.frozen? ⟨a.ab,20,none⟩=false:=H3.ak.free _;have RZ:IntKind.i64.wrap ((M.reads:Int)+1)=(M.reads:Int)+1:=by rw[IntKind.wrap_i64];have:=Tc.out;omega
   go_upto_region 7 with fail;have j4:af (az a.ab) W3 (W3.setCell ⟨a.ab,20,none⟩ (ah ((M.reads:Int)+1))):=(af.ai (az a.ab) W3).setCell (p:=⟨a.ab,20,none⟩) (.inl (show az a.ab a.ab from rfl)) _;have H4:=ae<|H3.aaw j4;have cr:=ae<|(bI.mono (S':=ke a) fun _ h=>h.elim).aG j4 fun k hk=>.inl pj;have HW3:=aq (Wr Z (az a.ab) W3) (fun k _ hk=>by rw[show k=a.ab from hk];exact⟨H3.lo _ (.inr (.inr (.inr (.inl rfl)))),.inr fun cs hb=>absurd (hb.same H3.ak).1 aE⟩);have Kh:=ae<|HD3.ar j4 HW3;have xF:=ae (j4.ak Gp fun e=>by have e:qb=a.ab:=e;have h1:=HH.ak.lt;have h2:=xE.out;omega);have DE:=aq (w.heap.size≤(W3.setCell ⟨a.ab,20,none⟩ (ah ((M.reads:Int)+1))).heap.size) (cr.size);clear j4 y20 g20 RZ HW3;change Code.wp _ _ _ _ (W3.setCell ⟨a.ab,20,none⟩ (ah ((M.reads:Int)+1)));generalize W3.setCell ⟨a.ab,20,none⟩ (ah ((M.reads:Int)+1))=W4 at *;obtain⟨Aq,nq,VZ⟩:=Kh.shape;subst VZ;have HK:=ae<|vW (b:=m.f 5) (lev:=m.f 6) H4 Kh Gn (by show _<da;have:=Gv.out;show(bg c 2 hP hk).sp.jf M.s<da;omega);have q5:aF W4 qb 5 (m.f 5):=xF.ag rfl;have q6:aF W4 qb 6 (m.f 6):=xF.ag rfl;go_upto_region 11 with(go_at_call 64;refine HK.mono ?_;rintro e W5 ⟨u,rfl,Gi,D5,V5,h5,o5⟩);have HA:=ae h5;have HM:=ae Gi;have Gq:=ae<|cr.aG o5 fun k hk=>.inl hk;have Vn:=ae<|o5.ak xF fun e=>absurd (H4.Ns e xF) aE;have XD:=ae<|Kh.ar o5 H4.wr;have jY:=ae<|r7 (sp:=(bg c 2 hP hk).sp) (c:=c) (M:=lQ M) (b:=m.f 5) (t:=(ec c M (m.f 5)).2) (lev:=m.f 6);have rf:=ae DE;have Fe:=aq (Z.B≤W4.heap.size) (by have h1:=OE.out;have h2:=DE.out;have h3:=xE.out;omega);have JM:=aq (0<c.h.length→∀k,aJ a.hv k→k<W4.heap.size) (fun h0 k hk=>by have h1:=GP.out h0 k hk;have h2:=DE.out;have h3:=xE.out;omega);have NY:=ae o5.size;clear Gi h5 o5 q5 q6 HK H4 Kh xF cr;obtain⟨X,e1,r1,d1⟩:=HM.out;have Ve:=aq (X.length≤1) (by have h9:=jY.out;have h8:X.length=(cU (bg c 2 hP hk).sp c (lQ M) (m.f 5) (ec c M (m.f 5)).2 (m.f 6)).length:=eW;omega);have uJ:=ae e1;have cy:=ae<|r1.alloc (.cells (wQ (m.f 5) (.slice Aq ((ec c M (m.f 5)).2).length nq)) 37);have fW:=(af.ai au W5).alloc (.cells (wQ (m.f 5) (.slice Aq ((ec c M (m.f 5)).2).length nq)) 37);have zj:=ae<|fun q hq=>(d1 q hq).keep fW;have XB:=ae<|XD.keep fW;have Gw:=ae<|HA.keep fW;have wS:=ae<|HM.keep fW;have pz:=ae<|Gq.aG fW fun _ h=>h.elim;have zg:=ae fW.size;have z5:aF W5 qb 5 (m.f 5):=Vn.ag rfl;clear e1 r1 d1 fW;obtain⟨Ao,co,eo,_,_⟩:=HM.shape;subst eo;go_wp2_with (at_builtin;refine fE _ rfl (.tmp 66) (.tmp 71) 43 37 rfl qA rfl aE Tryz.underlying43 W4.heap.size _ X.length _ (wQ (m.f 5) (.slice Aq ((ec c M (m.f 5)).2).length nq)).toList rfl cy ⟨W5.heap.size,0,none⟩ rfl rfl (iH W5 _ _) adR fa eY (Nat.le_trans NY zg) ?_;intro v8 W8 h8 iz _;have AV:=wS.wr Fe.out;have KJ:=ae<|bO.app (v':=undef) (AR 12 0 0 0 0 (m.f 5) 0 false (ec c M (m.f 5)).2,(.slice Aq ((ec c M (m.f 5)).2).length nq)) h8 uJ (fun q hq=>(zj q hq).ar iz AV) (XB.ar iz AV);have H8:=ae<|Gw.msgs wS Fe JM iz;have rA:=ae<|pz.aG iz fun j hj=>.inr (Nat.le_trans rf (wS.ak hj).1);obtain⟨A8,c8,e8,_,_⟩:=iV h8;subst e8;clear h8 iz AV)
   exact jM
  ·have HE:=aq (dr (bg c 2 hP hk).sp c M (m.f 5) (m.f 6)=M∧gQ (bg c 2 hP hk).sp c M (m.f 5) (m.f 6)= [AR 12 0 0 0 0 (m.f 5) 9 false []]) (⟨by unfold dr;rw[Fb];exact if_neg hb,by unfold gQ;rw[Fb];exact if_neg hb⟩);have Bd:=ae hb;clear h cV E4 hD Fb hb
   go_enter Tryz.func33,Tryz.ntmps33
   go_upto_region 1 with fail;have ho:=(af.ai au w).alloc (.cells (bd m (.slice A n cp)) 37);have HQ:=ae<|Box.fresh w 37 (bd m (.slice A n cp));have bc:=ae ho;have H1:=ae<|HH.keep ho;change Code.wp _ _ _ _ (w.alloc (.cells (bd m (.slice A n cp)) 37));clear ho;generalize w.alloc (.cells (bd m (.slice A n cp)) 37)=W1 at *;generalize qY:w.heap.size=qb at *;have xE:=ae qY;clear qY;have HU:=ae<|rX (H1.keep ((af.ai au W1).drew)).jW Xe;have d18:aM W1.drew a.ab 18 (aO a.cb):=H1.ak.ag rfl;have d5:aF W1.drew qb 5 (m.f 5):=HQ.ag rfl;go_upto_region 1 with fail;refine gg (fun w':World=>aM w' a.ab 18 (aO a.cb)∧aF w' qb 5 (m.f 5)) 11 ?_ ?_
   ·first|exact r9|exact⟨d18,d5⟩
   intro aC;refine bE [0,1,2,3,4,5] ?_;refine cX 6 fun Kc hK=>?_
   go_simp;refine HU.mono ?_;rintro e W2 ⟨rfl,bq⟩;have r9:aM W2 a.ab 18 (aO a.cb)∧aF W2 qb 5 (m.f 5):=⟨bq.cell d18 id,bq.cell d5 id⟩;have bu:=ae<|(bc.drew).trans bq;have H2:=ae<|(H1.keep ((af.ai au W1).drew)).keep bq;have qQ:=ae<|bq.ak HQ.drew id;clear bq;refine dy hK ?_ fun aC=>?_
   ·first|exact r9|exact⟨d18,d5⟩
   clear hK;refine bE [7,8,9,10] ?_;refine dE ?_;clear aC r9 d18 d5;have HR:=ae<|qh (b:=m.f 5) (sh:=br c) Bd (H2.keep ((af.ai au W2).drew)).kj;have d17:aM W2.drew a.ab 17 (aO a.sb):=H2.ak.ag rfl;have d5:aF W2.drew qb 5 (m.f 5):=qQ.ag rfl;go_upto_region 3 with fail;refine gg (fun w':World=>aM w' a.ab 17 (aO a.sb)∧aF w' qb 5 (m.f 5)) 13 ?_ ?_
   ·first|exact uF|exact⟨d17,d5⟩
   intro aC;refine bE [0,1,2,3,4,5] ?_;refine cX 6 fun Kc hK=>?_
   go_simp;refine HR.mono ?_;rintro e W3 ⟨rfl,rfl⟩;have uF:=aC;refine dy hK ?_ fun aC=>?_
   ·first|exact uF|exact⟨d17,d5⟩
   clear hK;refine bE [7,8,9,10,11,12] ?_;refine dE ?_;clear aC uF d17 d5;have z5:aF W2.drew qb 5 (m.f 5):=qQ.ag rfl;have bI:=ae bu.drew;generalize W2.drew=W3 at z5 bI ⊢;go_wp2_with fail;go_ret;have hs:=bI.size;exact⟨_,rfl,by rw[HE.2];exact bO.one (base:=w.heap.size) (AR 12 0 0 0 0 (m.f 5) 9 false []) rfl (qR.nil _ _) rfl hs,by rw[HE.1];exact lM.nil HH (bI.alloc _)⟩
 |some p=>
  obtain⟨t,v0⟩:=p;have Fb:M.D (m.f 5)=some t:=by rw[h.dd,hD];rfl
  have Xe:=ae hD;have Gn:=ae<|h.tX _ _ Fb;have AF:=aq (t.length≤16) (by have h1:=(h.jW.kz _ _ _ hD).len;have:=hP.p3;omega);have HX:=ae h.tX
  by_cases h4:c.f 4=2
  ·have HE:=aq (dr (bg c 2 hP hk).sp c M (m.f 5) (m.f 6)=bU (bg c 2 hP hk).sp c (pL (bg c 2 hP hk).sp M (m.f 5)) (m.f 5) t (m.f 6)∧gQ (bg c 2 hP hk).sp c M (m.f 5) (m.f 6)=cU (bg c 2 hP hk).sp c (pL (bg c 2 hP hk).sp M (m.f 5)) (m.f 5) t (m.f 6) ++ [AR 12 0 0 0 0 (m.f 5) 0 false t]) (⟨by unfold dr;rw[Fb];exact if_pos h4,by unfold gQ;rw[Fb];show(if c.f 4=2 then _ else _) ++ _=_;rw[if_pos h4]⟩);have Kd:=ae h4;clear h cV E4 hD Fb h4
   go_enter Tryz.func33,Tryz.ntmps33
   go_upto_region 1 with fail;have ho:=(af.ai au w).alloc (.cells (bd m (.slice A n cp)) 37);have HQ:=ae<|Box.fresh w 37 (bd m (.slice A n cp));have bc:=ae ho;have H1:=ae<|HH.keep ho;change Code.wp _ _ _ _ (w.alloc (.cells (bd m (.slice A n cp)) 37));clear ho;generalize w.alloc (.cells (bd m (.slice A n cp)) 37)=W1 at *;generalize qY:w.heap.size=qb at *;have xE:=ae qY;clear qY;have HU:=ae<|wB (H1.keep ((af.ai au W1).drew)).jW Xe gL;have d18:aM W1.drew a.ab 18 (aO a.cb):=H1.ak.ag rfl;have d5:aF W1.drew qb 5 (m.f 5):=HQ.ag rfl;go_upto_region 1 with fail;refine gg (fun w':World=>aM w' a.ab 18 (aO a.cb)∧aF w' qb 5 (m.f 5)) 11 ?_ ?_
   ·first|exact r9|exact⟨d18,d5⟩
   intro aC;refine bE [0,1,2,3,4,5] ?_;refine cX 6 fun Kc hK=>?_
   go_simp;refine HU.mono ?_;rintro e W2 ⟨vv,rfl,kJ,Gk,qZ,bq⟩;have Sc:∀k t cs,Box W1.drew k t cs→t∉GD→¬(bg c 2 hP hk).F a.i k:=fun k t cs hb ht hx=>ht (H1.fu _ _ _ H1.jW.ord k hx t cs hb)
   have qQ:=ae<|bq.ak HQ.drew (Sc _ _ _ HQ.drew aE);have r9:aM W2 a.ab 18 (aO a.cb)∧aF W2 qb 5 (m.f 5):=⟨(bq.ak H1.ak.drew (Sc _ _ _ H1.ak.drew aE)).ag rfl,qQ.ag rfl⟩;have bu:=aq (af (ke a) w W2) (((bc.drew).mono (S':=ke a) fun _ h=>h.elim).aG bq fun k hk=>.inl (.inl hk));have H2:=aq (bM Z (bg c 2 hP hk) c a (pL (bg c 2 hP hk).sp M (m.f 5)) W2) ((H1.keep ((af.ai au W1).drew)).zy qZ (bq.mono fun k hk=>.inl (.inl hk)) H1.dd H1.dn HX);have Q4:=ae (qR.row (Z:=Z) kJ (by have:=AF.out;omega) fun k hk hz=>by have h1:=H1.EY k hz;have h2:W1.heap.size≤k:=Gk k hk;omega);obtain⟨Av,cv,uB,_,_⟩:=kJ.shape;have HVS:=aq (∃A n c,vv= .slice A n c) (⟨_,_,_,uB⟩);clear bq kJ Gk qZ Sc uB;refine dy hK ?_ fun aC=>?_
   ·first|exact r9|exact⟨d18,d5⟩
   clear hK;refine bE [7,8,9,10] ?_;refine dE ?_;clear aC r9 d18 d5;have x4:aF W2 a.ab 4 2:=H2.ak.ag jU;have cr:=ae bu;have H4:=ae H2;have Kh:=ae Q4;have xF:=ae qQ;have DE:=aq (w.heap.size≤W2.heap.size) (bu.size);obtain⟨Aq,nq,VZ⟩:=Kh.shape;subst VZ;have HK:=ae<|vW (b:=m.f 5) (lev:=m.f 6) H4 Kh Gn (by show _<da;have:=Gv.out;have h9:=((bg c 2 hP hk).oc a.i).KE M.s (m.f 5);show(bg c 2 hP hk).sp.jf ((bg c 2 hP hk).sp.use M.s (m.f 5))<da;omega);have q5:aF W2 qb 5 (m.f 5):=xF.ag rfl;have q6:aF W2 qb 6 (m.f 6):=xF.ag rfl;go_upto_region 11 with(go_at_call 64;refine HK.mono ?_;rintro e W5 ⟨u,rfl,Gi,D5,V5,h5,o5⟩);have HA:=ae h5;have HM:=ae Gi;have Gq:=ae<|cr.aG o5 fun k hk=>.inl hk;have Vn:=ae<|o5.ak xF fun e=>absurd (H4.Ns e xF) aE;have XD:=ae<|Kh.ar o5 H4.wr;have jY:=ae<|r7 (sp:=(bg c 2 hP hk).sp) (c:=c) (M:=pL (bg c 2 hP hk).sp M (m.f 5)) (b:=m.f 5) (t:=t) (lev:=m.f 6);have rf:=ae DE;have Fe:=aq (Z.B≤W2.heap.size) (by have h1:=OE.out;have h2:=DE.out;have h3:=xE.out;omega);have JM:=aq (0<c.h.length→∀k,aJ a.hv k→k<W2.heap.size) (fun h0 k hk=>by have h1:=GP.out h0 k hk;have h2:=DE.out;have h3:=xE.out;omega);have NY:=ae o5.size;clear Gi h5 o5 q5 q6 HK H4 Kh xF cr;obtain⟨X,e1,r1,d1⟩:=HM.out;have Ve:=aq (X.length≤1) (by have h9:=jY.out;have h8:X.length=(cU (bg c 2 hP hk).sp c (pL (bg c 2 hP hk).sp M (m.f 5)) (m.f 5) t (m.f 6)).length:=eW;omega);have uJ:=ae e1;have cy:=ae<|r1.alloc (.cells (wQ (m.f 5) (.slice Aq (t).length nq)) 37);have fW:=(af.ai au W5).alloc (.cells (wQ (m.f 5) (.slice Aq (t).length nq)) 37);have zj:=ae<|fun q hq=>(d1 q hq).keep fW;have XB:=ae<|XD.keep fW;have Gw:=ae<|HA.keep fW;have wS:=ae<|HM.keep fW;have pz:=ae<|Gq.aG fW fun _ h=>h.elim;have zg:=ae fW.size;have z5:aF W5 qb 5 (m.f 5):=Vn.ag rfl;clear e1 r1 d1 fW;obtain⟨Ao,co,eo,_,_⟩:=HM.shape;subst eo;go_wp2_with (at_builtin;refine fE _ rfl (.tmp 66) (.tmp 71) 43 37 rfl qA rfl aE Tryz.underlying43 W2.heap.size _ X.length _ (wQ (m.f 5) (.slice Aq (t).length nq)).toList rfl cy ⟨W5.heap.size,0,none⟩ rfl rfl (iH W5 _ _) adR fa eY (Nat.le_trans NY zg) ?_;intro v8 W8 h8 iz _;have AV:=wS.wr Fe.out;have KJ:=ae<|bO.app (v':=undef) (AR 12 0 0 0 0 (m.f 5) 0 false t,(.slice Aq (t).length nq)) h8 uJ (fun q hq=>(zj q hq).ar iz AV) (XB.ar iz AV);have H8:=ae<|Gw.msgs wS Fe JM iz;have rA:=ae<|pz.aG iz fun j hj=>.inr (Nat.le_trans rf (wS.ak hj).1);obtain⟨A8,c8,e8,_,_⟩:=iV h8;subst e8;clear h8 iz AV);exact jM
  ·have WK:(c.f 4==2)=false:=by simpa using h4
   have HE:=aq (dr (bg c 2 hP hk).sp c M (m.f 5) (m.f 6)=pL (bg c 2 hP hk).sp M (m.f 5)∧gQ (bg c 2 hP hk).sp c M (m.f 5) (m.f 6)= [] ++ [AR 12 0 0 0 0 (m.f 5) 0 false t]) (⟨by unfold dr;rw[Fb];exact if_neg h4,by unfold gQ;rw[Fb];show(if c.f 4=2 then _ else _) ++ _=_;rw[if_neg h4]⟩);clear h cV E4 hD Fb h4
   go_enter Tryz.func33,Tryz.ntmps33
   go_upto_region 1 with fail;have ho:=(af.ai au w).alloc (.cells (bd m (.slice A n cp)) 37);have HQ:=ae<|Box.fresh w 37 (bd m (.slice A n cp));have bc:=ae ho;have H1:=ae<|HH.keep ho;change Code.wp _ _ _ _ (w.alloc (.cells (bd m (.slice A n cp)) 37));clear ho;generalize w.alloc (.cells (bd m (.slice A n cp)) 37)=W1 at *;generalize qY:w.heap.size=qb at *;have xE:=ae qY;clear qY;have HU:=ae<|wB (H1.keep ((af.ai au W1).drew)).jW Xe gL;have d18:aM W1.drew a.ab 18 (aO a.cb):=H1.ak.ag rfl;have d5:aF W1.drew qb 5 (m.f 5):=HQ.ag rfl;go_upto_region 1 with fail;refine gg (fun w':World=>aM w' a.ab 18 (aO a.cb)∧aF w' qb 5 (m.f 5)) 11 ?_ ?_
   ·first|exact r9|exact⟨d18,d5⟩
   intro aC;refine bE [0,1,2,3,4,5] ?_;refine cX 6 fun Kc hK=>?_
   go_simp;refine HU.mono ?_;rintro e W2 ⟨vv,rfl,kJ,Gk,qZ,bq⟩;have Sc:∀k t cs,Box W1.drew k t cs→t∉GD→¬(bg c 2 hP hk).F a.i k:=fun k t cs hb ht hx=>ht (H1.fu _ _ _ H1.jW.ord k hx t cs hb)
   have qQ:=ae<|bq.ak HQ.drew (Sc _ _ _ HQ.drew aE);have r9:aM W2 a.ab 18 (aO a.cb)∧aF W2 qb 5 (m.f 5):=⟨(bq.ak H1.ak.drew (Sc _ _ _ H1.ak.drew aE)).ag rfl,qQ.ag rfl⟩;have bu:=aq (af (ke a) w W2) (((bc.drew).mono (S':=ke a) fun _ h=>h.elim).aG bq fun k hk=>.inl (.inl hk));have H2:=aq (bM Z (bg c 2 hP hk) c a (pL (bg c 2 hP hk).sp M (m.f 5)) W2) ((H1.keep ((af.ai au W1).drew)).zy qZ (bq.mono fun k hk=>.inl (.inl hk)) H1.dd H1.dn HX);have Q4:=ae (qR.row (Z:=Z) kJ (by have:=AF.out;omega) fun k hk hz=>by have h1:=H1.EY k hz;have h2:W1.heap.size≤k:=Gk k hk;omega);obtain⟨Av,cv,uB,_,_⟩:=kJ.shape;have HVS:=aq (∃A n c,vv= .slice A n c) (⟨_,_,_,uB⟩);clear bq kJ Gk qZ Sc uB;refine dy hK ?_ fun aC=>?_
   ·first|exact r9|exact⟨d18,d5⟩
   clear hK;refine bE [7,8,9,10] ?_;refine dE ?_;clear aC r9 d18 d5;have x4:aF W2 a.ab 4 (c.f 4):=H2.ak.ag (xR c _ _ _ _ _ _ aE);generalize c.f 4=f4 at WK x4;obtain⟨Aq,nq,VZ⟩:=Q4.shape;subst VZ;go_upto_region 11 with fail;have HA:=ae H2;have Gq:=ae bu;have Vn:=ae qQ;have XD:=ae Q4;have HM:=ae<|bO.nil Z W2 W2.heap.size;have jY:=ae (show([]:List PM).length≤1 by decide);have rf:=aq (w.heap.size≤W2.heap.size) (bu.size);have Fe:=aq (Z.B≤W2.heap.size) jR;have JM:=aq (0<c.h.length→∀k,aJ a.hv k→k<W2.heap.size) (fun h0 k hk=>by have h1:=GP.out h0 k hk;have h2:=rf.out;have h3:=xE.out;omega);have NY:=ae<|dX W2.heap.size;clear x4;obtain⟨X,e1,r1,d1⟩:=HM.out;have Ve:=aq (X.length≤1) (by have h9:=jY.out;have h8:X.length=([]:List PM).length:=eW;omega);have uJ:=ae e1;have cy:=ae<|r1.alloc (.cells (wQ (m.f 5) (.slice Aq (t).length nq)) 37);have fW:=(af.ai au W2).alloc (.cells (wQ (m.f 5) (.slice Aq (t).length nq)) 37);have zj:=ae<|fun q hq=>(d1 q hq).keep fW;have XB:=ae<|XD.keep fW;have Gw:=ae<|HA.keep fW;have wS:=ae<|HM.keep fW;have pz:=ae<|Gq.aG fW fun _ h=>h.elim;have zg:=ae fW.size;have z5:aF W2 qb 5 (m.f 5):=Vn.ag rfl;clear e1 r1 d1 fW;go_wp2_with (at_builtin;refine fE _ rfl (.tmp 66) (.tmp 71) 43 37 rfl qA rfl aE Tryz.underlying43 W2.heap.size _ X.length _ (wQ (m.f 5) (.slice Aq (t).length nq)).toList rfl cy ⟨W2.heap.size,0,none⟩ rfl rfl (iH W2 _ _) adR fa eY (Nat.le_trans NY zg) ?_;intro v8 W8 h8 iz _;have AV:=wS.wr Fe.out;have KJ:=ae<|bO.app (v':=undef) (AR 12 0 0 0 0 (m.f 5) 0 false t,(.slice Aq (t).length nq)) h8 uJ (fun q hq=>(zj q hq).ar iz AV) (XB.ar iz AV);have H8:=ae<|Gw.msgs wS Fe JM iz;have rA:=ae<|pz.aG iz fun j hj=>.inr (Nat.le_trans rf (wS.ak hj).1);obtain⟨A8,c8,e8,_,_⟩:=iV h8;subst e8;clear h8 iz AV);exact jM
end
section
section
variable {Z:ZN}{K:bj}{c:aQ}{a:lu K}{M:AM K.σ}{w w':World}{m:dI}
theorem bM.Ou (h:bM Z K c a M w){dn:Bool}{rd:Nat}(py:Box w' a.ab 77 (lL c a.QI a.sb a.cb dn rd a.lm))(ho:af (az a.ab) w w'):bM Z K c a {M with down:=dn,reads:=rd} w':=by
 have hne:∀k t cs,Box w k t cs→t≠77→k≠a.ab:=fun k t cs hb ht e=>by rw[e]at hb;exact ht (hb.same h.ak).1
 have hso:bX w' a.sb a.db a.lb a.V (br c) M.d:=h.kj.ar ho fun k hk=>by
  exact o4
 exact mV
theorem BX (h:bM Z K c a M w)(b:Int):
 Calls Tryz.prog 31 #[aO a.sb,ah b] w fun e w'=>∃v f,e= .returned (.tuple #[v,ah (lp c M.d b:Nat),ah f])∧(∃A n c,v= .slice A n c)∧af au w w':=by
 unfold lp
 by_cases hb:0≤b∧b<c.f 2
 ·rw[if_pos hb];exact(zG h hb).mono fun e w' ⟨v,he,hr,ho,_⟩=>⟨v,0,he,by obtain⟨A,cp,e,_⟩:=hr.shape;exact⟨_,_,_,e⟩,ho⟩
 ·rw[if_neg hb];exact(qh (sh:=br c) hb h.kj).mono fun e w' ⟨he,hw⟩=>⟨_,9,he,⟨_,_,_,rfl⟩,hw▸af.ai _ _⟩
theorem Lv {A:Option Addr}{n cp:Nat}{t:List Int}(h:bM Z K c a M w)(hd:qR Z w (.slice A n cp) t)(hB:jX t):
 Calls Tryz.prog 65 #[aO a.sb,.agg #[ah (m.f 1),ah (m.f 2),ah (m.f 3),ah (m.f 4),ah (m.f 5),.slice A n cp]] w fun e w'=>e= .returned (.tuple #[ah (aW c (br c) M m t).2.1,ah (aW c (br c) M m t).2.2])∧hX a.sb a.db a.lb a.V (br c) (aW c (br c) M m t).1 w w':=by
 have hp:=h.right.p3;refine Hd (wr:=fun i=>m.f (i+1)) (size:=(c.f 3).toNat) h.kj (by show c.f 3=_;omega) hd.1 hB fun h0 k hk=>?_
 have:=h.wr.off (hd.2 h0 k hk) (zz hd.1 h0 k hk);exact⟨fun e=>this (.inr (.inr (.inr (.inr (.inl e))))),fun e=>this (.inr (.inr (.inr (.inr (.inr e)))))⟩
end
variable {Z:ZN}{c:aQ}{hP:dp c}{hk:2<3}{a:lu (bg c 2 hP hk)}{M:AM (bg c 2 hP hk).σ}{w:World}{m:dI}{A:Option Addr}{n cp:Nat}{t:List Int}
theorem Jh (h:bM Z (bg c 2 hP hk) c a M w)(hd:qR Z w (.slice A n cp) t)(hB:jX t)(cV:(bg c 2 hP hk).sp.jf M.s<da):
 Calls Tryz.prog 34 #[aO a.ab,.agg (bd m (.slice A n cp))] w (uz Z (bg c 2 hP hk) c a (dS (bg c 2 hP hk).sp c (br c) M m t) (fO (bg c 2 hP hk).sp c (br c) M m t) w):=by
 have HH:=ae h;have dx:=ae hd;have yX:=ae hB;have Gv:=ae cV;have OE:=ae h.zb;have GP:=ae h.aY;have Gt:=aq (dS (bg c 2 hP hk).sp c (br c) M m t=if(aW c (br c) M m t).2.2=8 then {M with d:=(aW c (br c) M m t).1,down:=true} else if(aW c (br c) M m t).2.2≠0 then {M with d:=(aW c (br c) M m t).1} else if lp c (aW c (br c) M m t).1 (m.f 5)≠lp c M.d (m.f 5)then bU (bg c 2 hP hk).sp c {M with d:=(aW c (br c) M m t).1} (m.f 5) t (m.f 6)else {M with d:=(aW c (br c) M m t).1}) (rfl);have Ni:=aq (fO (bg c 2 hP hk).sp c (br c) M m t=if(aW c (br c) M m t).2.2=8∨(aW c (br c) M m t).2.2=12 then[]else if(aW c (br c) M m t).2.2≠0 then[lR m (aW c (br c) M m t).2.2 false]else if lp c (aW c (br c) M m t).1 (m.f 5)≠lp c M.d (m.f 5)then cU (bg c 2 hP hk).sp c {M with d:=(aW c (br c) M m t).1} (m.f 5) t (m.f 6) ++ [lR m (aW c (br c) M m t).2.1 true]else[lR m (aW c (br c) M m t).2.1 false]) (rfl);have Gm:=ae<|fun w1 ho=>Lv (m:=m) (t:=t) (h.keep (w':=w1) ho) (hd.keep ho) hB;generalize aW c (br c) M m t=O at *;obtain⟨d3,cd,er⟩:=O;dsimp only at *;clear h hd hB cV
 go_enter Tryz.func34,Tryz.ntmps34
 go_upto_region 1 with fail;have ho:=(af.ai au w).alloc (.cells (bd m (.slice A n cp)) 37);have HQ:=ae<|Box.fresh w 37 (bd m (.slice A n cp));have bc:=ae ho;have H1:=ae<|HH.keep ho;change Code.wp _ _ _ _ (w.alloc (.cells (bd m (.slice A n cp)) 37));clear ho;generalize w.alloc (.cells (bd m (.slice A n cp)) 37)=W1 at *;generalize qY:w.heap.size=qb at *;have xE:=ae qY;clear qY;generalize UH:lp c M.d (m.f 5)=vb at *;have HVB:=ae UH;clear UH;have d17:aM W1.drew a.ab 17 (aO a.sb):=H1.ak.ag rfl;have d5:aF W1.drew qb 5 (m.f 5):=HQ.ag rfl;have abi:=ae<|BX (H1.keep ((af.ai au W1).drew)) (m.f 5);go_upto_region 1 with fail;refine gg (fun w':World=>aM w' a.ab 17 (aO a.sb)∧aF w' qb 5 (m.f 5)) 13 ?_ ?_
 ·first|exact S2|exact⟨d17,d5⟩
 intro aC;refine bE [0,1,2,3,4,5] ?_;refine cX 6 fun Kc hK=>?_
 go_simp;refine abi.mono ?_;rintro e W2 ⟨v21,f21,rfl,⟨A21,n21,Vb,aaE⟩,Od⟩;subst aaE;have S2:aM W2 a.ab 17 (aO a.sb)∧aF W2 qb 5 (m.f 5):=⟨Od.cell d17 id,Od.cell d5 id⟩;have Tj:=ae<|((af.ai au W1).drew).trans Od;clear Od;refine dy hK ?_ fun aC=>?_
 ·first|exact S2|exact⟨d17,d5⟩
 clear hK;refine bE [7,8,9,10,11,12] ?_;refine dE ?_;clear aC S2 d17 d5;rw[HVB.out];have AA:=ae<|bc.trans Tj;have H2:=ae<|H1.keep Tj;have qQ:=ae<|Tj.ak HQ id;have Xj:=aq (¬(qb=a.db∨qb=a.lb)) (fun e=>by
  have hx:=qQ.out;rcases e with e|e
  ·rw[e]at hx;exact absurd (hx.same H2.kj.lH.ak).1 aE
  ·rw[e]at hx;exact absurd (hx.same H2.kj.lH.row).1 aE)
 have HW:=ae<|Gm W2.drew AA.drew;have g17:aM W2.drew a.ab 17 (aO a.sb):=H2.ak.ag rfl;have g1:aF W2.drew qb 1 (m.f 1):=qQ.ag rfl;have g2:aF W2.drew qb 2 (m.f 2):=qQ.ag rfl;have g3:aF W2.drew qb 3 (m.f 3):=qQ.ag rfl;have g4:aF W2.drew qb 4 (m.f 4):=qQ.ag rfl;have g5:aF W2.drew qb 5 (m.f 5):=qQ.ag rfl;have g10:aM W2.drew qb 10 (.slice A n cp):=qQ.ag rfl;go_upto_region 2 with fail;refine gg (fun w':World=>aM w' a.ab 17 (aO a.sb)∧aF w' qb 1 (m.f 1)∧aF w' qb 2 (m.f 2)∧aF w' qb 3 (m.f 3)∧aF w' qb 4 (m.f 4)∧aF w' qb 5 (m.f 5)∧aM w' qb 10 (.slice A n cp)) 22 ?_ ?_
 ·first|exact uF|exact⟨g17,g1,g2,g3,g4,g5,g10⟩
 intro aC;refine bE [0,1,2,3,4,5,6,7,8,9,10,11,12,13,14,15] ?_;refine cX 16 fun Kc hK=>?_
 go_simp;refine dy hK ?_ fun aC=>?_
 ·first|exact uF|exact⟨g17,g1,g2,g3,g4,g5,g10⟩
 clear hK;refine cX 17 fun Kc hK=>?_
 go_simp;refine HW.mono ?_;rintro e W3 ⟨rfl,MY⟩;have bI:=aq (af (fun k=>k=a.db∨k=a.lb) W2 W3) (by obtain⟨_,_,_,o3⟩:=id MY;exact((af.ai _ W2).drew).aG o3 fun k hk=>.inl hk);have Gp:=ae<|bI.ak qQ Xj;obtain⟨V3,h3⟩:=(H2.keep ((af.ai au W2).drew)).Rp MY;have H3:=ae h3;have uF:aM W3 a.ab 17 (aO a.sb)∧aF W3 qb 1 (m.f 1)∧aF W3 qb 2 (m.f 2)∧aF W3 qb 3 (m.f 3)∧aF W3 qb 4 (m.f 4)∧aF W3 qb 5 (m.f 5)∧aM W3 qb 10 (.slice A n cp):=⟨h3.ak.ag rfl,Gp.ag rfl,Gp.ag rfl,Gp.ag rfl,Gp.ag rfl,Gp.ag rfl,Gp.ag rfl⟩;clear MY h3;refine dy hK ?_ fun aC=>?_
 ·first|exact uF|exact⟨g17,g1,g2,g3,g4,g5,g10⟩
 clear hK;refine bE [18,19,20,21] ?_;refine dE ?_;clear aC uF g17 g1 g2 g3 g4 g5 g10 HW;have d17:aM W3.drew a.ab 17 (aO a.sb):=H3.ak.ag rfl;have d5:aF W3.drew qb 5 (m.f 5):=Gp.ag rfl;have abh:=ae<|BX (H3.keep ((af.ai au W3).drew)) (m.f 5);go_upto_region 3 with fail;refine gg (fun w':World=>aM w' a.ab 17 (aO a.sb)∧aF w' qb 5 (m.f 5)) 13 ?_ ?_
 ·first|exact j9|exact⟨d17,d5⟩
 intro aC;refine bE [0,1,2,3,4,5] ?_;refine cX 6 fun Kc hK=>?_
 go_simp;refine abh.mono ?_;rintro e W4 ⟨v33,f33,rfl,⟨A33,n33,c33,Dw⟩,Oc⟩;subst Dw;have j9:aM W4 a.ab 17 (aO a.sb)∧aF W4 qb 5 (m.f 5):=⟨Oc.cell d17 id,Oc.cell d5 id⟩;have zi:=ae<|((af.ai au W3).drew).trans Oc;clear Oc;refine dy hK ?_ fun aC=>?_
 ·first|exact j9|exact⟨d17,d5⟩
 clear hK;refine bE [7,8,9,10,11,12] ?_;refine dE ?_;clear aC j9 d17 d5;have H4:=ae<|H3.keep zi;have xF:=ae<|zi.ak Gp id;have cr:=aq (af (ke a) w W4) (((AA.mono (S':=ke a) fun _ h=>h.elim).aG bI fun k hk=>.inl (by rcases hk with e|e;exact .inr (.inr (.inr (.inr (.inl e))));exact .inr (.inr (.inr (.inr (.inr e)))))).aG zi fun _ h=>h.elim);have YE:=ae<|dx.ar cr HH.wr;have HSW:=aq (w.heap.size≤W4.heap.size) (cr.size);generalize QI:lp c d3 (m.f 5)=va at *;have z1:aF W4 qb 1 (m.f 1):=xF.ag rfl;have z2:aF W4 qb 2 (m.f 2):=xF.ag rfl;have z3:aF W4 qb 3 (m.f 3):=xF.ag rfl;have z4:aF W4 qb 4 (m.f 4):=xF.ag rfl;have z5:aF W4 qb 5 (m.f 5):=xF.ag rfl;go_upto_region 5 with(refine wpList_store_row rfl 37 _ _ rfl W4.heap.size #[ah 13,ah (m.f 1),ah (m.f 2),ah (m.f 3),ah (m.f 4),ah (m.f 5),ah 0,ah 0,ah cd,.bool false,aT] rfl rfl 37 #[ah 0,ah 0,ah 0,ah 0,ah 0,ah 0,ah 0,ah 0,ah 0,.bool false,aT] (Box.fresh W4 _ _) aS rfl aU ?_);have al:=(af.ai au W4).alloc (.cells #[ah 0,ah 0,ah 0,ah 0,ah 0,ah 0,ah 0,ah 0,ah 0,.bool false,aT] 37);have HB:=ae<|(Box.fresh W4 37 #[ah 0,ah 0,ah 0,ah 0,ah 0,ah 0,ah 0,ah 0,ah 0,.bool false,aT]).aw #[ah 13,ah (m.f 1),ah (m.f 2),ah (m.f 3),ah (m.f 4),ah (m.f 5),ah 0,ah 0,ah cd,.bool false,aT];have ek:=ae<|al.aw (.inr (dX _)) #[ah 13,ah (m.f 1),ah (m.f 2),ah (m.f 3),ah (m.f 4),ah (m.f 5),ah 0,ah 0,ah cd,.bool false,aT];clear al;generalize(W4.alloc (.cells #[ah 0,ah 0,ah 0,ah 0,ah 0,ah 0,ah 0,ah 0,ah 0,.bool false,aT] 37)).setRow W4.heap.size #[ah 13,ah (m.f 1),ah (m.f 2),ah (m.f 3),ah (m.f 4),ah (m.f 5),ah 0,ah 0,ah cd,.bool false,aT]=W5 at *;have HQD:=aq (w.heap.size≤W4.heap.size∧qb<W4.heap.size) (⟨cr.size,xF.lt⟩);have abO:=aq (a.ab<W4.heap.size) (H4.ak.lt);obtain⟨qd,Wb⟩:∃qd,qd=W4.heap.size:=⟨_,rfl⟩;rw[←Wb]at HB HQD abO ⊢;have Tf:=ae Wb;clear Wb;have H5:=ae<|H4.keep ek;have Vn:=ae<|ek.ak xF id;have acQ:=ae<|YE.keep ek;have Tg:=ae<|cr.aG ek fun _ h=>h.elim;have HVA:=ae QI;clear QI z1 z2 z3 z4 z5
 by_cases h8:er=8
 ·subst h8;have HE:=aq (dS (bg c 2 hP hk).sp c (br c) M m t= {M with d:=d3,down:=true}∧fO (bg c 2 hP hk).sp c (br c) M m t= []) (⟨Gt.trans (if_pos rfl),Ni.trans (if_pos (.inl rfl))⟩);have Uw:aM W5 a.ab 19 (.bool M.down):=H5.ak.ag rfl;have g19:W5.frozen? ⟨a.ab,19,none⟩=false:=H5.ak.free _;go_wp2_with fail;go_ret;have j6:af (az a.ab) W5 (W5.setCell ⟨a.ab,19,none⟩ (.bool true)):=(af.ai (az a.ab) W5).setCell (p:=⟨a.ab,19,none⟩) (.inl (show az a.ab a.ab from rfl)) _;have h6:=H5.Ou (dn:=true) (rd:=M.reads) (H5.ak.store 19 (.bool true)) j6;exact⟨_,rfl,by rw[HE.2];exact bO.nil _ _ _,a.D,V3,by rw[HE.1];exact h6,Tg.aG j6 fun k hk=>.inl pj⟩
 ·by_cases JB:er=12
  ·subst JB;have HE:=aq (dS (bg c 2 hP hk).sp c (br c) M m t= {M with d:=d3}∧fO (bg c 2 hP hk).sp c (br c) M m t= []) (⟨Gt.trans ((if_neg h8).trans (if_pos aE)),Ni.trans (if_pos (.inr rfl))⟩);go_wp2_with fail;go_ret;exact⟨_,rfl,by rw[HE.2];exact bO.nil _ _ _,a.D,V3,by rw[HE.1];exact H5,Tg⟩
  ·by_cases h0:er=0
   ·subst h0
    by_cases hv:va=vb
    ·have Z7:((va:Int) != (vb:Int))=false:=by rw[hv];simp
     have HE:=aq (dS (bg c 2 hP hk).sp c (br c) M m t= {M with d:=d3}∧fO (bg c 2 hP hk).sp c (br c) M m t= [] ++ [lR m cd false]) (⟨Gt.trans ((if_neg aE).trans ((if_neg aE).trans (if_neg fun e=>e hv))),Ni.trans ((if_neg aE).trans ((if_neg aE).trans (if_neg fun e=>e hv)))⟩);clear hv h8 JB;go_upto_region 18 with fail;have HA:=ae H5;have Gq:=ae Tg;have HM:=ae<|bO.nil Z W5 W5.heap.size;have jY:=ae (show([]:List PM).length≤1 by decide);have NY:=ae<|dX W5.heap.size;have rf:=aq (w.heap.size≤W5.heap.size) (by have h1:=HSW.out;have h2:=ek.size;omega);have Fe:=aq (Z.B≤W5.heap.size) jR;have JM:=aq (0<c.h.length→∀k,aJ a.hv k→k<W5.heap.size) (fun h0 k hk=>by have h1:=GP.out h0 k hk;have h2:=rf.out;have h3:=xE.out;omega);obtain⟨X,e1,r1,d1⟩:=HM.out;have Ve:=aq (X.length≤1) (by have h9:=jY.out;have h8:X.length=(([]:List PM)).length:=eW;omega);have uJ:=ae e1;have cy:=ae<|r1.alloc (.cells #[ah 13,ah (m.f 1),ah (m.f 2),ah (m.f 3),ah (m.f 4),ah (m.f 5),ah 0,ah 0,ah cd,.bool false,aT] 37);have fW:=(af.ai au W5).alloc (.cells #[ah 13,ah (m.f 1),ah (m.f 2),ah (m.f 3),ah (m.f 4),ah (m.f 5),ah 0,ah 0,ah cd,.bool false,aT] 37);have zj:=ae<|fun q hq=>(d1 q hq).keep fW;have Gw:=ae<|HA.keep fW;have wS:=ae<|HM.keep fW;have pz:=ae<|Gq.aG fW fun _ h=>h.elim;have zg:=ae fW.size;clear e1 r1 d1 fW;go_wp2_with (first|(refine iy #[ah 13,ah (m.f 1),ah (m.f 2),ah (m.f 3),ah (m.f 4),ah (m.f 5),ah 0,ah 0,ah cd,.bool false,aT] HB Tryz.underlying37 ?_)|(at_builtin;refine fE _ rfl (.tmp 96) (.tmp 98) 43 37 rfl qA rfl aE Tryz.underlying43 W5.heap.size _ X.length _ (#[ah 13,ah (m.f 1),ah (m.f 2),ah (m.f 3),ah (m.f 4),ah (m.f 5),ah 0,ah 0,ah cd,.bool false,aT]:Array Value).toList rfl cy ⟨W5.heap.size,0,none⟩ rfl rfl (iH W5 _ _) aU fa eY (Nat.le_trans NY zg) ?_;intro v8 W8 h8 iz _;have AV:=wS.wr Fe.out;have KJ:=ae<|bO.app (v':=undef) (lR m cd false,aT) h8 uJ (fun q hq=>(zj q hq).ar iz AV) (qR.nil _ _);have H8:=ae<|Gw.msgs wS Fe JM iz;have rA:=ae<|pz.aG iz fun j hj=>.inr (Nat.le_trans rf (wS.ak hj).1);obtain⟨A8,c8,e8,_,_⟩:=iV h8;subst e8;clear h8 iz AV));go_wp2_with fail;exact jr
    ·have Z7:((va:Int) != (vb:Int))=true:=by simpa using fun e=>hv aj
     have HE:=aq (dS (bg c 2 hP hk).sp c (br c) M m t=bU (bg c 2 hP hk).sp c {M with d:=d3} (m.f 5) t (m.f 6)∧fO (bg c 2 hP hk).sp c (br c) M m t=cU (bg c 2 hP hk).sp c {M with d:=d3} (m.f 5) t (m.f 6) ++ [lR m cd true]) (⟨Gt.trans ((if_neg aE).trans ((if_neg aE).trans (if_pos hv))),Ni.trans ((if_neg aE).trans ((if_neg aE).trans (if_pos hv)))⟩);clear hv h8 JB;have y9:aM W5 qd 9 (.bool false):=HB.ag rfl;have g9:W5.frozen? ⟨qd,9,none⟩=false:=HB.free _;go_upto_region 17 with fail;have j6:af (az qd) W5 (W5.setCell ⟨qd,9,none⟩ (.bool true)):=(af.ai (az qd) W5).setCell (p:=⟨qd,9,none⟩) (.inl (show az qd qd from rfl)) _;have xb:=aq (Box (W5.setCell ⟨qd,9,none⟩ (.bool true)) qd 37 #[ah 13,ah (m.f 1),ah (m.f 2),ah (m.f 3),ah (m.f 4),ah (m.f 5),ah 0,ah 0,ah cd,.bool true,aT]) (HB.store 9 (.bool true));have iu:=aq (af au W4 (W5.setCell ⟨qd,9,none⟩ (.bool true))) (ek.aG j6 fun k hk=>.inr (by rw[show k=qd from hk,Tf.out];exact dX _));clear j6 y9 g9;change Code.wp _ _ _ _ (W5.setCell ⟨qd,9,none⟩ (.bool true));generalize W5.setCell ⟨qd,9,none⟩ (.bool true)=W6 at *;have H6:=ae<|H4.keep iu;have HQ6:=ae<|iu.ak xF id;have abF:=ae<|YE.keep iu;have abm:=ae<|cr.aG iu fun _ h=>h.elim;have HK:=ae<|vW (b:=m.f 5) (lev:=m.f 6) H6 abF yX Gv;have q5:aF W6 qb 5 (m.f 5):=HQ6.ag rfl;have q6:aF W6 qb 6 (m.f 6):=HQ6.ag rfl;have q10:aM W6 qb 10 (.slice A n cp):=HQ6.ag rfl;go_upto_region 18 with(go_at_call 64;refine HK.mono ?_;rintro e W7 ⟨u,rfl,NB,D7,V7,h7,o7⟩);have HA:=ae h7;have HM:=ae NB;have Gq:=ae<|abm.aG o7 fun k hk=>.inl hk;have HB:=ae<|o7.ak xb fun e=>absurd (H6.Ns e xb) aE;have jY:=ae<|r7 (sp:=(bg c 2 hP hk).sp) (c:=c) (M:={M with d:=d3}) (b:=m.f 5) (t:=t) (lev:=m.f 6);have NY:=ae o7.size;clear NB h7 o7 q5 q6 q10 HK;have rf:=aq (w.heap.size≤W6.heap.size) (by have h1:=HSW.out;have h2:=iu.size;omega);have Fe:=aq (Z.B≤W6.heap.size) jR;have JM:=aq (0<c.h.length→∀k,aJ a.hv k→k<W6.heap.size) (fun h0 k hk=>by have h1:=GP.out h0 k hk;have h2:=rf.out;have h3:=xE.out;omega);obtain⟨X,e1,r1,d1⟩:=HM.out;have Ve:=aq (X.length≤1) (by have h9:=jY.out;have h8:X.length=(cU (bg c 2 hP hk).sp c {M with d:=d3} (m.f 5) t (m.f 6)).length:=eW;omega);have uJ:=ae e1;have cy:=ae<|r1.alloc (.cells #[ah 13,ah (m.f 1),ah (m.f 2),ah (m.f 3),ah (m.f 4),ah (m.f 5),ah 0,ah 0,ah cd,.bool true,aT] 37);have fW:=(af.ai au W7).alloc (.cells #[ah 13,ah (m.f 1),ah (m.f 2),ah (m.f 3),ah (m.f 4),ah (m.f 5),ah 0,ah 0,ah cd,.bool true,aT] 37);have zj:=ae<|fun q hq=>(d1 q hq).keep fW;have Gw:=ae<|HA.keep fW;have wS:=ae<|HM.keep fW;have pz:=ae<|Gq.aG fW fun _ h=>h.elim;have zg:=ae fW.size;clear e1 r1 d1 fW;obtain⟨Ao,co,eo,_,_⟩:=HM.shape;subst eo;go_wp2_with (first|(refine iy #[ah 13,ah (m.f 1),ah (m.f 2),ah (m.f 3),ah (m.f 4),ah (m.f 5),ah 0,ah 0,ah cd,.bool true,aT] HB Tryz.underlying37 ?_)|(at_builtin;refine fE _ rfl (.tmp 96) (.tmp 98) 43 37 rfl qA rfl aE Tryz.underlying43 W6.heap.size _ X.length _ (#[ah 13,ah (m.f 1),ah (m.f 2),ah (m.f 3),ah (m.f 4),ah (m.f 5),ah 0,ah 0,ah cd,.bool true,aT]:Array Value).toList rfl cy ⟨W7.heap.size,0,none⟩ rfl rfl (iH W7 _ _) aU fa eY (Nat.le_trans NY zg) ?_;intro v8 W8 h8 iz _;have AV:=wS.wr Fe.out;have KJ:=ae<|bO.app (v':=undef) (lR m cd true,aT) h8 uJ (fun q hq=>(zj q hq).ar iz AV) (qR.nil _ _);have H8:=ae<|Gw.msgs wS Fe JM iz;have rA:=ae<|pz.aG iz fun j hj=>.inr (Nat.le_trans rf (wS.ak hj).1);obtain⟨A8,c8,e8,_,_⟩:=iV h8;subst e8;clear h8 iz AV))
     go_wp2_with fail;exact jr
   ·have HE:=aq (dS (bg c 2 hP hk).sp c (br c) M m t= {M with d:=d3}∧fO (bg c 2 hP hk).sp c (br c) M m t= [lR m er false]) (⟨Gt.trans ((if_neg h8).trans (if_pos h0)),Ni.trans ((if_neg (fun e=>e.elim h8 JB)).trans (if_pos h0))⟩);have e8:(er==8)=false:=by simpa using h8
    have M8:(er==12)=false:=by simpa using JB
    have e0:(er==0)=false:=by simpa using h0
    clear h8 JB h0;have y8:aF W5 qd 8 cd:=HB.ag rfl;have g8:W5.frozen? ⟨qd,8,none⟩=false:=HB.free _;go_upto_region 7 with fail;have j6:af (az qd) W5 (W5.setCell ⟨qd,8,none⟩ (ah er)):=(af.ai (az qd) W5).setCell (p:=⟨qd,8,none⟩) (.inl (show az qd qd from rfl)) _;have xb:=aq (Box (W5.setCell ⟨qd,8,none⟩ (ah er)) qd 37 #[ah 13,ah (m.f 1),ah (m.f 2),ah (m.f 3),ah (m.f 4),ah (m.f 5),ah 0,ah 0,ah er,.bool false,aT]) (HB.store 8 (ah er));have iu:=aq (af au W4 (W5.setCell ⟨qd,8,none⟩ (ah er))) (ek.aG j6 fun k hk=>.inr (by rw[show k=qd from hk,Tf.out];exact dX _));clear j6 y8 g8;change Code.wp _ _ _ _ (W5.setCell ⟨qd,8,none⟩ (ah er));generalize W5.setCell ⟨qd,8,none⟩ (ah er)=W6 at *;go_wp2_with (refine iy #[ah 13,ah (m.f 1),ah (m.f 2),ah (m.f 3),ah (m.f 4),ah (m.f 5),ah 0,ah 0,ah er,.bool false,aT] xb Tryz.underlying37 ?_);go_ret;have hsw:=HSW.out;have hs6:=iu.size;have hqe:=Tf.out;exact⟨_,rfl,by rw[HE.2];exact bO.one (base:=w.heap.size) (lR m er false) rfl (qR.nil _ _) rfl aj,a.D,V3,by rw[HE.1];exact(H4.keep iu).keep ((af.ai au W6).alloc _),(cr.aG iu fun _ h=>h.elim).aG ((af.ai au W6).alloc _) fun _ h=>h.elim⟩
end
theorem Mw (w:World):(Instr.index 80 (.agg #[.nilFunc,.nilFunc,.nilFunc,.nilFunc,.nilFunc,.nilFunc,.nilFunc,.nilFunc,.func (.func 33) #[] #[],.func (.func 34) #[] #[],.func (.func 35) #[] #[],.func (.func 36) #[] #[],.nilFunc,.nilFunc,.nilFunc]) (ah 1)).run Tryz.prog w= .ok (.nilFunc) w:=by kernel_rfl
theorem Mv (w:World):(Instr.index 80 (.agg #[.nilFunc,.nilFunc,.nilFunc,.nilFunc,.nilFunc,.nilFunc,.nilFunc,.nilFunc,.func (.func 33) #[] #[],.func (.func 34) #[] #[],.func (.func 35) #[] #[],.func (.func 36) #[] #[],.nilFunc,.nilFunc,.nilFunc]) (ah 2)).run Tryz.prog w= .ok (.nilFunc) w:=by kernel_rfl
theorem Mu (w:World):(Instr.index 80 (.agg #[.nilFunc,.nilFunc,.nilFunc,.nilFunc,.nilFunc,.nilFunc,.nilFunc,.nilFunc,.func (.func 33) #[] #[],.func (.func 34) #[] #[],.func (.func 35) #[] #[],.func (.func 36) #[] #[],.nilFunc,.nilFunc,.nilFunc]) (ah 3)).run Tryz.prog w= .ok (.nilFunc) w:=by kernel_rfl
theorem Mt (w:World):(Instr.index 80 (.agg #[.nilFunc,.nilFunc,.nilFunc,.nilFunc,.nilFunc,.nilFunc,.nilFunc,.nilFunc,.func (.func 33) #[] #[],.func (.func 34) #[] #[],.func (.func 35) #[] #[],.func (.func 36) #[] #[],.nilFunc,.nilFunc,.nilFunc]) (ah 4)).run Tryz.prog w= .ok (.nilFunc) w:=by kernel_rfl
theorem Ms (w:World):(Instr.index 80 (.agg #[.nilFunc,.nilFunc,.nilFunc,.nilFunc,.nilFunc,.nilFunc,.nilFunc,.nilFunc,.func (.func 33) #[] #[],.func (.func 34) #[] #[],.func (.func 35) #[] #[],.func (.func 36) #[] #[],.nilFunc,.nilFunc,.nilFunc]) (ah 5)).run Tryz.prog w= .ok (.nilFunc) w:=by kernel_rfl
theorem Mr (w:World):(Instr.index 80 (.agg #[.nilFunc,.nilFunc,.nilFunc,.nilFunc,.nilFunc,.nilFunc,.nilFunc,.nilFunc,.func (.func 33) #[] #[],.func (.func 34) #[] #[],.func (.func 35) #[] #[],.func (.func 36) #[] #[],.nilFunc,.nilFunc,.nilFunc]) (ah 6)).run Tryz.prog w= .ok (.nilFunc) w:=by kernel_rfl
theorem Mq (w:World):(Instr.index 80 (.agg #[.nilFunc,.nilFunc,.nilFunc,.nilFunc,.nilFunc,.nilFunc,.nilFunc,.nilFunc,.func (.func 33) #[] #[],.func (.func 34) #[] #[],.func (.func 35) #[] #[],.func (.func 36) #[] #[],.nilFunc,.nilFunc,.nilFunc]) (ah 7)).run Tryz.prog w= .ok (.nilFunc) w:=by kernel_rfl
theorem Mp (w:World):(Instr.index 80 (.agg #[.nilFunc,.nilFunc,.nilFunc,.nilFunc,.nilFunc,.nilFunc,.nilFunc,.nilFunc,.func (.func 33) #[] #[],.func (.func 34) #[] #[],.func (.func 35) #[] #[],.func (.func 36) #[] #[],.nilFunc,.nilFunc,.nilFunc]) (ah 8)).run Tryz.prog w= .ok (.func (.func 33) #[] #[]) w:=by kernel_rfl
theorem Mo (w:World):(Instr.index 80 (.agg #[.nilFunc,.nilFunc,.nilFunc,.nilFunc,.nilFunc,.nilFunc,.nilFunc,.nilFunc,.func (.func 33) #[] #[],.func (.func 34) #[] #[],.func (.func 35) #[] #[],.func (.func 36) #[] #[],.nilFunc,.nilFunc,.nilFunc]) (ah 9)).run Tryz.prog w= .ok (.func (.func 34) #[] #[]) w:=by kernel_rfl
theorem IX (w:World):(Instr.index 80 (.agg #[.nilFunc,.nilFunc,.nilFunc,.nilFunc,.nilFunc,.nilFunc,.nilFunc,.nilFunc,.func (.func 33) #[] #[],.func (.func 34) #[] #[],.func (.func 35) #[] #[],.func (.func 36) #[] #[],.nilFunc,.nilFunc,.nilFunc]) (ah 10)).run Tryz.prog w= .ok (.func (.func 35) #[] #[]) w:=by kernel_rfl
theorem IW (w:World):(Instr.index 80 (.agg #[.nilFunc,.nilFunc,.nilFunc,.nilFunc,.nilFunc,.nilFunc,.nilFunc,.nilFunc,.func (.func 33) #[] #[],.func (.func 34) #[] #[],.func (.func 35) #[] #[],.func (.func 36) #[] #[],.nilFunc,.nilFunc,.nilFunc]) (ah 11)).run Tryz.prog w= .ok (.func (.func 36) #[] #[]) w:=by kernel_rfl
theorem IV (w:World):(Instr.index 80 (.agg #[.nilFunc,.nilFunc,.nilFunc,.nilFunc,.nilFunc,.nilFunc,.nilFunc,.nilFunc,.func (.func 33) #[] #[],.func (.func 34) #[] #[],.func (.func 35) #[] #[],.func (.func 36) #[] #[],.nilFunc,.nilFunc,.nilFunc]) (ah 12)).run Tryz.prog w= .ok (.nilFunc) w:=by kernel_rfl
theorem IU (w:World):(Instr.index 80 (.agg #[.nilFunc,.nilFunc,.nilFunc,.nilFunc,.nilFunc,.nilFunc,.nilFunc,.nilFunc,.func (.func 33) #[] #[],.func (.func 34) #[] #[],.func (.func 35) #[] #[],.func (.func 36) #[] #[],.nilFunc,.nilFunc,.nilFunc]) (ah 13)).run Tryz.prog w= .ok (.nilFunc) w:=by kernel_rfl
theorem IQ (w:World):(Instr.index 80 (.agg #[.nilFunc,.nilFunc,.nilFunc,.nilFunc,.nilFunc,.nilFunc,.nilFunc,.nilFunc,.func (.func 33) #[] #[],.func (.func 34) #[] #[],.func (.func 35) #[] #[],.func (.func 36) #[] #[],.nilFunc,.nilFunc,.nilFunc]) (ah 14)).run Tryz.prog w= .ok (.nilFunc) w:=by kernel_rfl
theorem Mm (w:World):(binOp BinOp.eql 79 (.func (.func 33) #[] #[]) .nilFunc).run Tryz.prog w= .ok (.bool false) w:=by kernel_rfl
theorem Ml (w:World):(binOp BinOp.eql 79 (.func (.func 34) #[] #[]) .nilFunc).run Tryz.prog w= .ok (.bool false) w:=by kernel_rfl
theorem IP (w:World):(binOp BinOp.eql 79 (.func (.func 35) #[] #[]) .nilFunc).run Tryz.prog w= .ok (.bool false) w:=by kernel_rfl
theorem IM (w:World):(binOp BinOp.eql 79 (.func (.func 36) #[] #[]) .nilFunc).run Tryz.prog w= .ok (.bool false) w:=by kernel_rfl
theorem Mn (w:World):(binOp BinOp.eql 79 .nilFunc .nilFunc).run Tryz.prog w= .ok (.bool true) w:=by kernel_rfl
section
variable {Z:ZN}{c:aQ}{hP:dp c}{hk:2<3}{a:lu (bg c 2 hP hk)}{M:AM (bg c 2 hP hk).σ}{w:World}{m:dI}{A:Option Addr}{n cp:Nat}{t:List Int}
theorem bS{P:Prop}(h:P:=by
 have hfn:=Mn;go_wp2_with fail;go_ret;exact⟨_,rfl,by rw[HE.2];exact bO.nil _ _ _,by rw[HE.1];exact lM.nil HH bu⟩):P:=h
theorem gC{P:Prop}(h:P:=by
 exact⟨_,rfl,by rw[HE.2];exact Dd.low bu.size,by rw[HE.1];exact MY.back bu⟩):P:=h
theorem ZV (h:bM Z (bg c 2 hP hk) c a M w)(hd:qR Z w (.slice A n cp) t)(hB:jX t)(cV:(bg c 2 hP hk).sp.jf M.s+1<da)(E4:M.reads<1000000):
 Calls Tryz.prog 14 #[aO a.ab,.agg (bd m (.slice A n cp))] w (uz Z (bg c 2 hP hk) c a (cN (bg c 2 hP hk).sp c (br c) M m t) (dK (bg c 2 hP hk).sp c (br c) M m t) w):=by
 obtain rfl:=hd.1.len.1;have HH:=ae h;have dx:=ae hd;have yX:=ae hB;have Gv:=ae cV;have Tc:=ae E4;have Gt:=aq (cN (bg c 2 hP hk).sp c (br c) M m t=if M.down=true∨mg m t.length=false then M else if m.f 0=8 then dr (bg c 2 hP hk).sp c M (m.f 5) (m.f 6)else if m.f 0=9 then dS (bg c 2 hP hk).sp c (br c) M m t else if m.f 0=10 then(if c.f 4=2∧m.f 6=3 then dz (bg c 2 hP hk).sp c M (m.f 5) t (m.f 6)else M)else if m.f 0=11 then dC (bg c 2 hP hk).sp M (m.f 5)else M) (rfl);have Ni:=aq (dK (bg c 2 hP hk).sp c (br c) M m t=if M.down=true∨mg m t.length=false then[]else if m.f 0=8 then gQ (bg c 2 hP hk).sp c M (m.f 5) (m.f 6)else if m.f 0=9 then fO (bg c 2 hP hk).sp c (br c) M m t else[]) (rfl);clear h hd hB cV E4
 go_enter Tryz.func14,Tryz.ntmps14
 go_upto_region 1 with fail;have ho:=(af.ai au w).alloc (.cells (bd m (.slice A t.length cp)) 37);have HQ:=ae<|Box.fresh w 37 (bd m (.slice A t.length cp));have bc:=ae ho;have H1:=ae<|HH.keep ho;change Code.wp _ _ _ _ (w.alloc (.cells (bd m (.slice A t.length cp)) 37));clear ho;generalize w.alloc (.cells (bd m (.slice A t.length cp)) 37)=W1 at *;generalize qY:w.heap.size=qb at *;have xE:=ae qY;clear qY;have YG:=ae<|dx.keep bc;have Uw:aM W1 a.ab 19 (.bool M.down):=H1.ak.ag rfl
 cases E9:M.down with
 |true=>
  rw[E9]at Uw;have HE:=aq (cN (bg c 2 hP hk).sp c (br c) M m t=M∧dK (bg c 2 hP hk).sp c (br c) M m t= []) (⟨Gt.trans (if_pos (.inl E9)),Ni.trans (if_pos (.inl E9))⟩);clear E9;go_wp2_with fail;go_ret;exact⟨_,rfl,by rw[HE.2];exact bO.nil _ _ _,by rw[HE.1];exact lM.nil HH bc⟩
 |false=>
  rw[E9]at Uw;have HR:=yj m A t.length cp W1;have z0:aF W1 qb 0 (m.f 0):=HQ.ag rfl;have z1:aF W1 qb 1 (m.f 1):=HQ.ag rfl;have z2:aF W1 qb 2 (m.f 2):=HQ.ag rfl;have z3:aF W1 qb 3 (m.f 3):=HQ.ag rfl;have z4:aF W1 qb 4 (m.f 4):=HQ.ag rfl;have z5:aF W1 qb 5 (m.f 5):=HQ.ag rfl;have z6:aF W1 qb 6 (m.f 6):=HQ.ag rfl;have z7:aF W1 qb 7 (m.f 7):=HQ.ag rfl;have z8:aF W1 qb 8 (m.f 8):=HQ.ag rfl;have z9:aM W1 qb 9 (.bool m.g):=HQ.ag rfl;have z10:aM W1 qb 10 (.slice A t.length cp):=HQ.ag rfl
  cases tY:mg m t.length with
  |false=>
   have HE:=aq (cN (bg c 2 hP hk).sp c (br c) M m t=M∧dK (bg c 2 hP hk).sp c (br c) M m t= []) (⟨Gt.trans (if_pos (.inr tY)),Ni.trans (if_pos (.inr tY))⟩);rw[tY]at HR;have HR:=ae HR;clear E9 tY;unfold bd at HR;go_wp2_with (go_at_call 32;refine HR.mono ?_;rintro e W2 ⟨rfl,bq⟩);go_ret;exact⟨_,rfl,by rw[HE.2];exact bO.nil _ _ _,by rw[HE.1];exact lM.nil HH (bc.trans bq)⟩
  |true=>
   have pH:¬(M.down=true∨mg m t.length=false):=fun e=>e.elim (fun e=>by rw[E9]at e;cases e) fun e=>by rw[tY]at e;cases e
   have ss:=ae<|Gt.trans (if_neg pH);have sr:=ae<|Ni.trans (if_neg pH);have hkd:1≤m.f 0∧m.f 0≤14:=by
    have h9:=tY;unfold mg at h9;simp only[Bool.and_eq_true,decide_eq_true_eq]at h9;exact h9.1
   rw[tY]at HR;have HR:=ae HR;clear E9 tY pH Gt Ni;unfold bd at HR;go_upto_region 3 with(go_at_call 32;refine HR.mono ?_;rintro e W2 ⟨rfl,bq⟩);have bu:=ae<|bc.trans bq;have qQ:=ae<|bq.ak HQ id;have H2:=ae<|H1.keep bq;have YF:=ae<|YG.keep bq;clear bq z0 z1 z2 z3 z4 z5 z6 z7 z8 z9 z10 Uw HR H1 HQ YG;have z0:aF W2 qb 0 (m.f 0):=qQ.ag rfl;rcases(show m.f 0=8∨m.f 0=9∨m.f 0=10∨m.f 0=11∨m.f 0=1∨m.f 0=2∨m.f 0=3∨m.f 0=4∨m.f 0=5∨m.f 0=6∨m.f 0=7∨m.f 0=12∨m.f 0=13∨m.f 0=14 by omega)with hm|hm|hm|hm|hm|hm|hm|hm|hm|hm|hm|hm|hm|hm
   ·have e9:¬m.f 0=9:=by rw[hm];decide
    have qO:¬m.f 0=10:=by rw[hm];decide
    have wO:¬m.f 0=11:=by rw[hm];decide
    have HE:=aq (cN (bg c 2 hP hk).sp c (br c) M m t=dr (bg c 2 hP hk).sp c M (m.f 5) (m.f 6)∧dK (bg c 2 hP hk).sp c (br c) M m t=gQ (bg c 2 hP hk).sp c M (m.f 5) (m.f 6)) (⟨ss.trans (if_pos hm),sr.trans (if_pos hm)⟩);rw[hm]at z0;have AY:=Mp;have hfn:=Mm;have HC:=ae<|MR (m:=m) (A:=A) (n:=t.length) (cp:=cp) H2 Gv Tc;go_wp2_with (first|(refine iy (bd m (.slice A t.length cp)) qQ Tryz.underlying37 ?_)|(go_at_call 33;refine HC.mono ?_;rintro e W3 ⟨u,rfl,Dd,MY⟩));go_ret;exact gC
   ·have e8:¬m.f 0=8:=by rw[hm];decide
    have qO:¬m.f 0=10:=by rw[hm];decide
    have wO:¬m.f 0=11:=by rw[hm];decide
    have HE:=aq (cN (bg c 2 hP hk).sp c (br c) M m t=dS (bg c 2 hP hk).sp c (br c) M m t∧dK (bg c 2 hP hk).sp c (br c) M m t=fO (bg c 2 hP hk).sp c (br c) M m t) (⟨ss.trans ((if_neg e8).trans (if_pos hm)),sr.trans ((if_neg e8).trans (if_pos hm))⟩);rw[hm]at z0;have AY:=Mo;have hfn:=Ml;have HC:=ae<|Jh (m:=m) H2 YF yX gL;go_wp2_with (first|(refine iy (bd m (.slice A t.length cp)) qQ Tryz.underlying37 ?_)|(go_at_call 34;refine HC.mono ?_;rintro e W3 ⟨u,rfl,Dd,MY⟩));go_ret;exact gC
   ·have e8:¬m.f 0=8:=by rw[hm];decide
    have e9:¬m.f 0=9:=by rw[hm];decide
    have wO:¬m.f 0=11:=by rw[hm];decide
    have HE:=aq (cN (bg c 2 hP hk).sp c (br c) M m t=(if c.f 4=2∧m.f 6=3 then dz (bg c 2 hP hk).sp c M (m.f 5) t (m.f 6)else M)∧dK (bg c 2 hP hk).sp c (br c) M m t= []) (⟨ss.trans ((if_neg e8).trans ((if_neg e9).trans (if_pos hm))),sr.trans ((if_neg e8).trans (if_neg e9))⟩);rw[hm]at z0;have AY:=IX;have hfn:=IP;have HC:=ae<|ER (m:=m) H2 YF yX gL;go_wp2_with (first|(refine iy (bd m (.slice A t.length cp)) qQ Tryz.underlying37 ?_)|(go_at_call 35;refine HC.mono ?_;rintro e W3 ⟨u,rfl,Dd,MY⟩));go_ret;exact gC
   ·have e8:¬m.f 0=8:=by rw[hm];decide
    have e9:¬m.f 0=9:=by rw[hm];decide
    have qO:¬m.f 0=10:=by rw[hm];decide
    have HE:=aq (cN (bg c 2 hP hk).sp c (br c) M m t=dC (bg c 2 hP hk).sp M (m.f 5)∧dK (bg c 2 hP hk).sp c (br c) M m t= []) (⟨ss.trans ((if_neg e8).trans ((if_neg e9).trans ((if_neg qO).trans (if_pos hm)))),sr.trans ((if_neg e8).trans (if_neg e9))⟩);rw[hm]at z0;have AY:=IW;have hfn:=IM;have HC:=ae<|MS (m:=m) (A:=A) (n:=t.length) (cp:=cp) H2;go_wp2_with (first|(refine iy (bd m (.slice A t.length cp)) qQ Tryz.underlying37 ?_)|(go_at_call 36;refine HC.mono ?_;rintro e W3 ⟨u,rfl,Dd,MY⟩));go_ret;exact gC
   ·have e8:¬m.f 0=8:=by rw[hm];decide
    have e9:¬m.f 0=9:=by rw[hm];decide
    have qO:¬m.f 0=10:=by rw[hm];decide
    have wO:¬m.f 0=11:=by rw[hm];decide
    have HE:=aq (cN (bg c 2 hP hk).sp c (br c) M m t=M∧dK (bg c 2 hP hk).sp c (br c) M m t= []) (⟨ss.trans ((if_neg e8).trans ((if_neg e9).trans ((if_neg qO).trans (if_neg wO)))),sr.trans ((if_neg e8).trans (if_neg e9))⟩);rw[hm]at z0;have AY:=Mw;exact bS
   ·have e8:¬m.f 0=8:=by rw[hm];decide
    have e9:¬m.f 0=9:=by rw[hm];decide
    have qO:¬m.f 0=10:=by rw[hm];decide
    have wO:¬m.f 0=11:=by rw[hm];decide
    have HE:=aq (cN (bg c 2 hP hk).sp c (br c) M m t=M∧dK (bg c 2 hP hk).sp c (br c) M m t= []) (⟨ss.trans ((if_neg e8).trans ((if_neg e9).trans ((if_neg qO).trans (if_neg wO)))),sr.trans ((if_neg e8).trans (if_neg e9))⟩);rw[hm]at z0;have AY:=Mv;exact bS
   ·have e8:¬m.f 0=8:=by rw[hm];decide
    have e9:¬m.f 0=9:=by rw[hm];decide
    have qO:¬m.f 0=10:=by rw[hm];decide
    have wO:¬m.f 0=11:=by rw[hm];decide
    have HE:=aq (cN (bg c 2 hP hk).sp c (br c) M m t=M∧dK (bg c 2 hP hk).sp c (br c) M m t= []) (⟨ss.trans ((if_neg e8).trans ((if_neg e9).trans ((if_neg qO).trans (if_neg wO)))),sr.trans ((if_neg e8).trans (if_neg e9))⟩);rw[hm]at z0;have AY:=Mu;exact bS
   ·have e8:¬m.f 0=8:=by rw[hm];decide
    have e9:¬m.f 0=9:=by rw[hm];decide
    have qO:¬m.f 0=10:=by rw[hm];decide
    have wO:¬m.f 0=11:=by rw[hm];decide
    have HE:=aq (cN (bg c 2 hP hk).sp c (br c) M m t=M∧dK (bg c 2 hP hk).sp c (br c) M m t= []) (⟨ss.trans ((if_neg e8).trans ((if_neg e9).trans ((if_neg qO).trans (if_neg wO)))),sr.trans ((if_neg e8).trans (if_neg e9))⟩);rw[hm]at z0;have AY:=Mt;exact bS
   ·have e8:¬m.f 0=8:=by rw[hm];decide
    have e9:¬m.f 0=9:=by rw[hm];decide
    have qO:¬m.f 0=10:=by rw[hm];decide
    have wO:¬m.f 0=11:=by rw[hm];decide
    have HE:=aq (cN (bg c 2 hP hk).sp c (br c) M m t=M∧dK (bg c 2 hP hk).sp c (br c) M m t= []) (⟨ss.trans ((if_neg e8).trans ((if_neg e9).trans ((if_neg qO).trans (if_neg wO)))),sr.trans ((if_neg e8).trans (if_neg e9))⟩);rw[hm]at z0;have AY:=Ms;exact bS
   ·have e8:¬m.f 0=8:=by rw[hm];decide
    have e9:¬m.f 0=9:=by rw[hm];decide
    have qO:¬m.f 0=10:=by rw[hm];decide
    have wO:¬m.f 0=11:=by rw[hm];decide
    have HE:=aq (cN (bg c 2 hP hk).sp c (br c) M m t=M∧dK (bg c 2 hP hk).sp c (br c) M m t= []) (⟨ss.trans ((if_neg e8).trans ((if_neg e9).trans ((if_neg qO).trans (if_neg wO)))),sr.trans ((if_neg e8).trans (if_neg e9))⟩);rw[hm]at z0;have AY:=Mr;exact bS
   ·have e8:¬m.f 0=8:=by rw[hm];decide
    have e9:¬m.f 0=9:=by rw[hm];decide
    have qO:¬m.f 0=10:=by rw[hm];decide
    have wO:¬m.f 0=11:=by rw[hm];decide
    have HE:=aq (cN (bg c 2 hP hk).sp c (br c) M m t=M∧dK (bg c 2 hP hk).sp c (br c) M m t= []) (⟨ss.trans ((if_neg e8).trans ((if_neg e9).trans ((if_neg qO).trans (if_neg wO)))),sr.trans ((if_neg e8).trans (if_neg e9))⟩);rw[hm]at z0;have AY:=Mq;exact bS
   ·have e8:¬m.f 0=8:=by rw[hm];decide
    have e9:¬m.f 0=9:=by rw[hm];decide
    have qO:¬m.f 0=10:=by rw[hm];decide
    have wO:¬m.f 0=11:=by rw[hm];decide
    have HE:=aq (cN (bg c 2 hP hk).sp c (br c) M m t=M∧dK (bg c 2 hP hk).sp c (br c) M m t= []) (⟨ss.trans ((if_neg e8).trans ((if_neg e9).trans ((if_neg qO).trans (if_neg wO)))),sr.trans ((if_neg e8).trans (if_neg e9))⟩);rw[hm]at z0;have AY:=IV;exact bS
   ·have e8:¬m.f 0=8:=by rw[hm];decide
    have e9:¬m.f 0=9:=by rw[hm];decide
    have qO:¬m.f 0=10:=by rw[hm];decide
    have wO:¬m.f 0=11:=by rw[hm];decide
    have HE:=aq (cN (bg c 2 hP hk).sp c (br c) M m t=M∧dK (bg c 2 hP hk).sp c (br c) M m t= []) (⟨ss.trans ((if_neg e8).trans ((if_neg e9).trans ((if_neg qO).trans (if_neg wO)))),sr.trans ((if_neg e8).trans (if_neg e9))⟩);rw[hm]at z0;have AY:=IU;exact bS
   ·have e8:¬m.f 0=8:=by rw[hm];decide
    have e9:¬m.f 0=9:=by rw[hm];decide
    have qO:¬m.f 0=10:=by rw[hm];decide
    have wO:¬m.f 0=11:=by rw[hm];decide
    have HE:=aq (cN (bg c 2 hP hk).sp c (br c) M m t=M∧dK (bg c 2 hP hk).sp c (br c) M m t= []) (⟨ss.trans ((if_neg e8).trans ((if_neg e9).trans ((if_neg qO).trans (if_neg wO)))),sr.trans ((if_neg e8).trans (if_neg e9))⟩);rw[hm]at z0;have AY:=IQ;exact bS
theorem Us (h:bM Z (bg c 2 hP hk) c a M w)(b:Int):
 Calls Tryz.prog 13 #[aO a.ab,ah b] w fun e w'=>∃v,e= .returned (.tuple #[v,ah (lp c M.d b:Nat),ah (if 0≤b∧b<c.f 2 then 0 else 9)])∧Row 5 w' v (bytes (if 0≤b∧b<c.f 2 then(ec c M b).2 else[]))∧af au w w'∧∀k,aJ v k→w.heap.size≤k:=by
 have x17:aM w a.ab 17 (aO a.sb):=h.ak.ag rfl
 by_cases hb:0≤b∧b<c.f 2
 ·have HR:=ae<|zG h hb;have HE:=aq (lp c M.d b=(ec c M b).1) (if_pos hb);rw[if_pos hb,if_pos hb,HE.out];clear h hb
  go_enter Tryz.func13,Tryz.ntmps13
  go_wp2_with (go_at_call 31;refine HR.mono ?_;rintro e W1 ⟨v,rfl,hr,ho,hf⟩)
  go_ret3
  exact⟨v,rfl,hr,ho,hf⟩
 ·have HR:=ae<|qh (b:=b) (sh:=br c) hb h.kj;have HE:=aq (lp c M.d b=0) (if_neg hb);rw[if_neg hb,if_neg hb,HE.out];clear h hb
  go_enter Tryz.func13,Tryz.ntmps13
  go_wp2_with (go_at_call 31;refine HR.mono ?_;rintro e W1 ⟨rfl,rfl⟩)
  go_ret3
  exact⟨_,rfl,Row.lJ _ _,af.ai _ _,fun k hk=>(bo hk).elim⟩
theorem Uu (h:bM Z (bg c 2 hP hk) c a M w):
 Calls Tryz.prog 19 #[aO a.ab] w fun e w'=>∃v,e= .returned v∧aA 3 w' w.heap.size v ((bg c 2 hP hk).sp.all M.s)∧af au w w':=by
 have ZZ:aM w a.ab 18 (aO a.cb):=h.ak.ag rfl;have HA:=ae<|Qg h.jW;clear h
 go_enter Tryz.func19,Tryz.ntmps19
 go_wp2_with (go_at_call 37;refine HA.mono ?_;rintro e W1 ⟨v,rfl,hr,ho⟩);go_ret;exact⟨v,rfl,hr,ho⟩
theorem ZX (h:bM Z (bg c 2 hP hk) c a M w):Calls Tryz.prog 17 #[aO a.ab] w fun e w'=>e= .returned (.bool M.down)∧w=w':=by
 have x19:aM w a.ab 19 (.bool M.down):=h.ak.ag rfl;clear h
 go_enter Tryz.func17,Tryz.ntmps17
 go_wp2_with fail;go_ret;exact⟨rfl,rfl⟩
end
def lO (d:bC)(n:Int):bC:=if d.down=true then d else {d with cA:=max n (-1)}
section
section
variable {w:World}{db lb:Nat}{V:Nat→Value}{d:bC}
theorem eD.Ou {d':bC}{w':World}(h:eD w db lb V d)(hs:d'.sec=d.sec)(hb:Box w' db 66 #[bp lb 64 64,ah d'.cA,.bool d'.down])(ho:af (az db) w w'):eD w' db lb V d':=
 {ak:=hb,row:=ho.ak h.row (fun e=>h.ne (show lb=db from e).symm),sa:=fun i hi=>by rw[hs];exact(h.sa i hi).ar ho fun k hk e=>(h.off i hi k hk).1 e,small:=fun i hi=>by rw[hs];exact h.small i hi,off:=fun i hi k hk=>⟨(h.off i hi k hk).1,(h.off i hi k hk).2.1,Nat.lt_of_lt_of_le (h.off i hi k hk).2.2 ho.size⟩,ne:=h.ne,u8:=fun i hi k hk=>by obtain⟨cs,hx⟩:=h.u8 i hi k hk;exact⟨cs,ho.ak hx (h.off i hi k hk).1⟩}
end
end
def Zw (Z:ZN)(K:bj)(c:aQ)(db lb:Nat)(d:bC)(w:World)(e:Ending)(w':World):Prop:=
 ∃a:lu K,e= .returned (.tuple #[aO a.ab,ah 0])∧a.db=db∧a.lb=lb∧bM Z K c a ⟨K.s0,fun _=>none,mn (br c) (c.f 3).toNat d,false,0⟩ w'∧af (fun k=>k=db∨k=lb) w w'∧(0<c.h.length→∀k,aJ a.hv k→w.heap.size≤k)
theorem TT {Z:ZN}{db lb:Nat}{V V3:Nat→Value}{n0:Nat}{w:World}{d:bC}(hZ:∀i,i<64→∀k,aJ (V i) k→¬Z.N k)(hk:∀k,eE db lb V3 k→eE db lb V k∨n0≤k)(hd:eD w db lb V3 d){j k:Nat}(hj:j<64)(ho:aJ (V3 j) k)(hz:Z.N k)(hl:k<n0):False:=by
 have h3:=hd.off j hj k ho;rcases hk k (.inr (.inr ⟨j,hj,ho⟩))with e|e
 ·rcases e with e|e|⟨i,hi,e⟩
  ·exact h3.1 e
  ·exact h3.2.1 e
  ·exact hZ i hi k e hz
 ·omega
theorem TU {Z:ZN}{K:bj}{i:K.ι}{ab cb mb sb db lb bb:Nat}{hv QI lm:Value}{V:Nat→Value}{D:Int→Option ll}{c:aQ}(hZ:Z.B≤db∧Z.B≤lb∧Z.B≤bb)(hp:∀k,mr K i cb mb c hv (fun _=>none) k→bb≤k)(ha:bb≤ab){k:Nat}(h:ke (⟨i,ab,cb,mb,sb,db,lb,hv,QI,lm,V,D⟩:lu K) k):Z.B≤k:=by
 rcases h with e|e|e|e|e|e
 ·exact Nat.le_trans hZ.2.2 (hp k (.inl e))
 ·rw[show k=cb from e];exact Nat.le_trans hZ.2.2 (hp cb (.inr (.inl rfl)))
 ·rw[show k=mb from e];exact Nat.le_trans hZ.2.2 (hp mb (.inr (.inr (.inl rfl))))
 ·rw[show k=ab from e];exact Nat.le_trans hZ.2.2 ha
 ·rw[show k=db from e];exact hZ.1
 ·rw[show k=lb from e];exact hZ.2.1
section
theorem aar {Z:ZN}{KO:bj}{c:aQ}(hK:KO.Made c 3)(hT:KO.Typ)(hP:dp c){A:Option Addr}{n cp:Nat}{db lb:Nat}{V:Nat→Value}{d:bC}(w:World)(bL:aX w A n cp c.h)
 (h:eD w db lb V d) (f0:d.down=false) (f1:d.cA= -1) (hb:∀i,jX (d.sec i)) (hZ:∀i,i<64→∀k,aJ (V i) k→¬Z.N k) (hZ2:Z.B≤db∧Z.B≤lb∧Z.B≤w.heap.size) (hZ3:∀k,Z.N k→k<w.heap.size):
 Calls Tryz.prog 10 #[.agg (ao c (.slice A n cp)),aO db] w (Zw Z KO c db lb d w):=by
 have HZ:=aq ((∀i,i<64→∀k,aJ (V i) k→¬Z.N k)∧(Z.B≤db∧Z.B≤lb∧Z.B≤w.heap.size)∧(∀k,Z.N k→k<w.heap.size)) (⟨hZ,hZ2,hZ3⟩);have HTY:=ae hT;have Fs:=aq (db<w.heap.size∧lb<w.heap.size) (⟨h.lt (.inl rfl),h.lt (.inr (.inl rfl))⟩);have HD:=ae h;have HP:=ae hP;have HF:=aq ((d.down=false∧d.cA= -1)∧(∀i,jX (d.sec i))) (⟨⟨f0,f1⟩,hb⟩);have HI:=ae bL;have uv:=ae<|fun w bL=>zQ (A:=A) (n:=n) (cp:=cp) hK hP (by decide:1≤3) (by decide:3≤3) w bL;clear h f0 f1 hb bL hP hZ hZ2 hZ3 hT
 go_enter Tryz.func10,Tryz.ntmps10
 go_upto_region 1 with fail;have l8:=(af.ai au w).alloc (.cells (ao c (.slice A n cp)) 25);have b8:=ae<|Box.fresh w 25 (ao c (.slice A n cp));have bc:=ae l8;have HR:=ae<|uv _ (HI.keep l8);change Code.wp _ _ _ _ (w.alloc (.cells (ao c (.slice A n cp)) 25));clear l8;generalize w.alloc (.cells (ao c (.slice A n cp)) 25)=W1 at *;generalize tZ:w.heap.size=bb at *;have qx:=ae tZ;clear tZ;go_upto_region 2 with(first|(refine iy (ao c (.slice A n cp)) b8 Tryz.underlying25 ?_)|(go_at_call 29;refine HR.mono ?_;rintro e W2 ⟨i,cb,mb,Aw,rfl,qZ,Sd,GK,Kw,DA,bq⟩));have dG:=ae<|bq.ak b8 id;have bu:=ae<|bc.trans bq;have Nj:=ae qZ;have Nb:=aq (∀k,mr KO i cb mb c Aw (fun _=>none) k→w.heap.size≤k∧k<W2.heap.size) (by
  have hsz:=bc.size;intro k hk;have h3:=qZ.Rr hk;rcases hk with hk|hk|hk|⟨_,_,_,hk,_⟩|hk
  ·have:=Sd k hk;exact⟨aj,h3⟩
  ·exact⟨aj,h3⟩
  ·exact⟨aj,h3⟩
  ·cases hk
  ·have:=DA hk.1 k hk.2;exact⟨aj,h3⟩)
 have Q4:=ae<|(HD.keep bc).keep bq;clear bq b8 bc HR qZ Sd GK Kw DA uv;have x0:aF W2 bb 0 (c.f 0):=dG.ag (aL c _ aE);have x1:aF W2 bb 1 (c.f 1):=dG.ag (aL c _ aE);have x2:aF W2 bb 2 (c.f 2):=dG.ag (aL c _ aE);have x3:aF W2 bb 3 (c.f 3):=dG.ag (aL c _ aE);have Xp:=ae<|LA (sh:=br c) (size:=(c.f 3).toNat) (uL HP) (by show c.f 3=_;have:=HP.p3;omega) Q4 HF.1.1 HF.1.2 HF.2;go_upto_region 5 with(go_at_call 30;refine Xp.mono ?_;rintro e W3 ⟨sb,V3,rfl,Gd,Kr,aaO,bV⟩);have HOX:=ae bV;have Vs:=ae aaO;have HDX:=aq (db<bb∧lb<bb) (by have h1:=Fs.out;have h2:=qx.out;omega);have hG:=ae (bV.ak dG fun e=>by have h1:=HDX.out;have e:bb=db∨bb=lb:=e;omega);have Sz:=aq (∀k,mr KO i cb mb c Aw (fun _=>none) k→¬(k=db∨k=lb)) (fun k hk e=>by have h1:=Nb.out k hk;have h2:=HDX.out;have h4:=qx.out;omega);have JP:=ae<|Nj.off bV (fun k hk=>Sz k (.inl hk)) (Sz cb (.inr (.inl rfl))) (Sz mb (.inr (.inr (.inl rfl)))) (fun b l v hb=>by cases hb) fun h0 k hk=>Sz k (.inr (.inr (.inr (.inr ⟨h0,hk⟩))));have Dq:=ae Gd;have bI:=ae<|(bu.mono (S':=fun k=>k=db∨k=lb) fun _ h=>h.elim).aG bV fun k hk=>.inl hk;have J9:=aq (W2.heap.size≤sb∧sb<W3.heap.size) (⟨Kr,Gd.ak.lt⟩);clear bV Gd Kr Xp x0 x1 x2 x3 dG Nj;have tc:= @run_makeMap Tryz.prog;go_upto_region 7 with fail;go_wp2_with (first|(refine iy (ao c (.slice A n cp)) hG Tryz.underlying25 ?_)|(refine du rfl _ _ rfl [(0,.agg (ao c (.slice A n cp))),(1,aO sb),(2,aO cb),(5,.map (some W3.heap.size))] _ (by simp[Act.eval]) (yD c A n cp sb cb W3.heap.size) ?_));go_ret2;have Dp:=(af.ai au W3).alloc (.map #[] 0);have py:=Box.fresh (W3.alloc (.map #[] 0)) 77 (lL c (.slice A n cp) sb cb false 0 (.map (some W3.heap.size)));have wR:=(af.ai au (W3.alloc (.map #[] 0))).alloc (.cells (lL c (.slice A n cp) sb cb false 0 (.map (some W3.heap.size))) 77);have hz:(W3.alloc (.map #[] 0)).heap.size=W3.heap.size+1:=by simp
 rw[hz]at py;have hz3:=bI.size;have hs5:=(Dq.keep Dp).keep wR;refine⟨⟨i,W3.heap.size+1,cb,mb,sb,db,lb,Aw,.slice A n cp,.map (some W3.heap.size),V3,fun _=>none⟩,by simp,rfl,rfl,?_,(bI.aG Dp fun _ h=>h.elim).aG wR fun _ h=>h.elim,fun h0 k hk=>(Nb k (.inr (.inr (.inr (.inr ⟨h0,hk⟩))))).1⟩;exact {ak:=py,jW:=(JP.keep Dp).keep wR,dd:=fun b=>rfl,dn:=fun b l v hb=>(by cases hb),kj:=hs5,sn:=fun j hj k hk hz=>TT HZ.1 Vs hs5.lH hj hk hz (by have h1:=HZ.2.2 k hz;have h2:=bu.size;have h3:=qx.out;omega),bL:=fun h0 k hk=>(by have h1:=Nb.out k (.inr (.inr (.inr (.inr ⟨h0,hk⟩))));have h2:=HDX.out;have h3:=J9.out;have h4:=qx.out;show k≠W3.heap.size+1∧k≠db∧k≠lb;omega),lo:=fun k hk=>TU (bb:=bb) HZ.2.1 (fun k hk=>by have h1:=(Nb k hk).1;have h4:=qx.out;omega) (by have h1:=qx.out;omega) hk,EY:=fun k hk=>(by have h1:=HZ.2.2 k hk;have h2:=qx.out;have h3:=wR.size;have h4:=Dp.size;omega),fu:=HTY.out,tX:=fun b l hb=>(by cases hb)}
end
section
variable {K:bj}{c:aQ}{M:AM K.σ}{b lev:Int}{t:List Int}
theorem Co (i:K.ι):K.sp.jf (dz K.sp c M b t lev).s≤K.sp.jf M.s+1∧(dz K.sp c M b t lev).reads=M.reads:=by
 unfold dz
 split
 ·exact⟨Nat.le_succ _,rfl⟩
 ·exact⟨(K.oc i).Ox _ _,rfl⟩
theorem yK (i:K.ι):K.sp.jf (dC K.sp M b).s≤K.sp.jf M.s∧(dC K.sp M b).reads=M.reads:=by
 unfold dC
 split
 ·exact⟨(K.oc i).Ow _ _,rfl⟩
 ·exact⟨dX _,rfl⟩
theorem tT (i:K.ι):K.sp.jf (bU K.sp c M b t lev).s≤K.sp.jf M.s+1∧(bU K.sp c M b t lev).reads=M.reads:=by
 unfold bU
 split
 ·exact Co i
 ·have:=yK (M:=M) (b:=b) i;exact⟨aj,this.2⟩
theorem mQ{P:Prop}(h:P:=by
 have h3:K.sp.jf (pL K.sp M b).s=K.sp.jf (K.sp.use M.s b):=rfl;have h4:(pL K.sp M b).reads=M.reads:=rfl;omega):P:=h
theorem Jl (i:K.ι):K.sp.jf (dr K.sp c M b lev).s≤K.sp.jf M.s+2∧(dr K.sp c M b lev).reads≤M.reads+1:=by
 unfold dr
 split
 ·have h1:=(K.oc i).KE M.s b
  split
  ·rename_i t _ _
   have h2:=tT (c:=c) (M:=pL K.sp M b) (b:=b) (t:=t) (lev:=lev) i;exact mQ
  ·exact mQ
 ·split
  ·have h2:=tT (c:=c) (M:=lQ M) (b:=b) (t:=(ec c M b).2) (lev:=lev) i;have h3:K.sp.jf (lQ M).s=K.sp.jf M.s:=rfl;have h4:(lQ M).reads=M.reads+1:=rfl;omega
  ·omega
theorem EV (i:K.ι)(sh:Nat→Int)(m:dI):K.sp.jf (dS K.sp c sh M m t).s≤K.sp.jf M.s+2∧(dS K.sp c sh M m t).reads≤M.reads+1:=by
 unfold dS
 split
 ·exact⟨Nat.le_add_right _ 2,Nat.le_succ _⟩
 ·split
  ·exact⟨Nat.le_add_right _ 2,Nat.le_succ _⟩
  ·split
   ·have h2:=tT (c:=c) (M:={M with d:=(aW c sh M m t).1}) (b:=m.f 5) (t:=t) (lev:=m.f 6) i;have h3:K.sp.jf ({M with d:=(aW c sh M m t).1}:AM K.σ).s=K.sp.jf M.s:=rfl;have h4:({M with d:=(aW c sh M m t).1}:AM K.σ).reads=M.reads:=rfl;omega
   ·exact⟨Nat.le_add_right _ 2,Nat.le_succ _⟩
theorem VR (i:K.ι)(sh:Nat→Int)(m:dI):K.sp.jf (cN K.sp c sh M m t).s≤K.sp.jf M.s+2∧(cN K.sp c sh M m t).reads≤M.reads+1:=by
 unfold cN
 split
 ·omega
 ·split
  ·exact Jl i
  ·split
   ·exact EV i sh m
   ·split
    ·split
     ·have:=Co (c:=c) (M:=M) (b:=m.f 5) (t:=t) (lev:=m.f 6) i;omega
     ·omega
    ·split
     ·have:=yK (M:=M) (b:=m.f 5) i;omega
     ·omega
end
theorem GV.cA {σ:Type}{c:aQ}{M:AM σ}(h:GV c M)(n:Int):GV c {M with d:=lO M.d n}:=by
 have hs:(lO M.d n).sec=M.d.sec∧(lO M.d n).down=M.d.down:=by unfold lO;split<;>exact⟨rfl,rfl⟩
 rcases h with h|⟨h1,h2⟩
 ·exact .inl h
 ·refine .inr ⟨hs.2.trans h1,fun b l hb=>?_⟩;obtain⟨q1,q2,q3⟩:=h2 b l hb;refine⟨q1,q2,?_⟩
  show l=(bD _ ((lO M.d n).sec _)).2
  rw[hs.1];exact q3
section
variable {Z:ZN}{K:bj}{c:aQ}{a:lu K}{M:AM K.σ}{w:World}
end
structure N6 {c:aQ}{hP:dp c}{hk:2<3}(QW:Nat)(cv:Value)(k:Nat)(w:World)(a:lu (bg c 2 hP hk))(M:AM (bg c 2 hP hk).σ)(wr:World):Prop where
 b:bM ⟨w.heap.size,fun _=>False⟩ (bg c 2 hP hk) c a M wr
 jf:(bg c 2 hP hk).sp.jf M.s≤2*k
 rd:M.reads≤k
 cf:Box wr QW 25 (ao c cv)
 o:af au w wr
section
variable {c:aQ}{hP:dp c}{hk:2<3}{QW k:Nat}{cv:Value}{w wr w':World}{a:lu (bg c 2 hP hk)}{M M':AM (bg c 2 hP hk).σ}
theorem N6.keep (h:N6 QW cv k w a M wr)(ho:af au wr w'):N6 QW cv k w a M w':=⟨h.b.keep ho,h.jf,h.rd,ho.ak h.cf id,h.o.trans ho⟩
theorem N6.next (h:N6 QW cv k w a M wr):N6 QW cv (k+1) w a M wr:=⟨h.b,by have:=h.jf;omega,by have:=h.rd;omega,h.cf,h.o⟩
theorem N6.tg (h:N6 QW cv k w a M wr){D':Int→Option ll}{V':Nat→Value}(hb:bM ⟨w.heap.size,fun _=>False⟩ (bg c 2 hP hk) c {a with D:=D',V:=V'} M' w')(ho:af (ke a) wr w')(h1:(bg c 2 hP hk).sp.jf M'.s≤(bg c 2 hP hk).sp.jf M.s+2)(h2:M'.reads≤M.reads+1):N6 QW cv (k+1) w {a with D:=D',V:=V'} M' w':=
 ⟨hb,by have:=h.jf;omega,by have:=h.rd;omega,ho.ak h.cf fun e=>absurd (h.b.Ns e h.cf) aE,h.o.aG ho fun k hk=>.inr (h.b.lo k hk)⟩
end
theorem ZY (a:vr)(A:Option Addr)(n c:Nat):((Oy a (.slice A n c)).all fun x=>x.oneCell')=true:=by simp[Oy,Value.oneCell']
def acg:Array Value:=#[ah 0,ah 0,ah 0,ah 0,ah 0,ah 0,ah 0,ah 0,ah 0,ah 0,.bool false,aT]
def ace:Array Value:=#[ah 0,ah 0,ah 0,ah 0,ah 0,ah 0,ah 0,ah 0,ah 0,.bool false,aT]
section
theorem Ut {c:aQ}(hP:¬dp c){A:Option Addr}{n cp:Nat}{db:Nat}(w:World)(bL:aX w A n cp c.h):
 Calls Tryz.prog 10 #[.agg (ao c (.slice A n cp)),aO db] w fun e w'=>e= .returned (.tuple #[.pointer none,ah 6])∧af au w w':=by
 have HI:=ae bL;have HN:=ae<|fun w bL=>EN hP 3 (A:=A) (n:=n) (cp:=cp) w bL;clear bL
 go_enter Tryz.func10,Tryz.ntmps10
 go_upto_region 1 with fail;have b8:=ae<|Box.fresh w 25 (ao c (.slice A n cp));have bc:=ae<|(af.ai au w).alloc (.cells (ao c (.slice A n cp)) 25);have HR:=ae<|HN _ (HI.keep bc);change Code.wp _ _ _ _ (w.alloc (.cells (ao c (.slice A n cp)) 25));generalize w.alloc (.cells (ao c (.slice A n cp)) 25)=W1 at *;generalize w.heap.size=bb at *;go_wp2_with (first|(refine iy (ao c (.slice A n cp)) b8 Tryz.underlying25 ?_)|(go_at_call 29;refine HR.mono ?_;rintro e W2 ⟨rfl,bq⟩));go_ret2;exact⟨rfl,bc.trans bq⟩
end
section
variable {σ:Type}{sp:pQ σ}{c:aQ}{M:AM σ}{b lev:Int}{t:List Int}
def rI (c:aQ)(M:AM σ):Prop:=∀b l,M.D b=some l→0≤b∧b<c.f 2∧(l.length:Int)=c.f 3
theorem rI.put (h:rI c M):rI c (dz sp c M b t lev):=fun y l hy=>by
 rcases DS hy with⟨e1,e2,e3⟩|⟨e1,_⟩
 ·obtain⟨_,h2,h3,h4⟩:=ki e3;rw[e1,e2];exact⟨h3,h4,h2⟩
 ·exact h y l e1
theorem rI.drop (h:rI c M):rI c (dC sp M b):=fun y l hy=>h y l (zU hy).1
end
section
variable {K:bj}{c:aQ}{hP:dp c}{hk:2<3}{Z:ZN}{a:lu (bg c 2 hP hk)}{M:AM (bg c 2 hP hk).σ}{w:World}
theorem bM.is (h:bM Z (bg c 2 hP hk) c a M w)(b:Int):decide (b∈(bg c 2 hP hk).sp.all M.s)=(M.D b).isSome:=by
 have h1:=h.jW.keys b;have h2:(M.D b).isSome=(a.D b).isSome:=by rw[h.dd b];cases a.D b<;>rfl
 rw[h2]
 cases h3:(a.D b).isSome with
 |true=>exact decide_eq_true (h1.1 h3)
 |false=>exact decide_eq_false fun e=>by rw[h1.2 e]at h3;cases h3
theorem bM.cap (h:bM Z (bg c 2 hP hk) c a M w):(((bg c 2 hP hk).sp.all M.s).length:Int)≤c.f 11:=PR h.jW.ord
end
structure RaA where
 x:Nat
 s:RsA
 r:A9
 Aw:Value
def raC (c:aQ)(Aw:Value)(sb cb:Nat)(reads:Int):Array Value:=ao c Aw ++ #[aO sb,aO cb,ah reads]
def RaW {K:bj}{c:aQ}(o:ir K c 2)(a:RaA):Nat→Prop:=fun k=>td o a.r k∨RsW a.s k∨k=a.x
structure adY {K:bj}{c:aQ}(Z:ZN)(o:ir K c 2)(a:RaA)(M:AM K.σ)(S:Cj)(Dr:Nat→List Int)(w:World):Prop where
 ak:Box w a.x 58 (raC c a.Aw a.s.sb a.r.cb M.reads)
 adl:RKB Z o a.r M Dr w
 rs:RsB c a.s S w
 of:aeG c M.d S
 fr:M.d.down=false∧M.d.cA= -1
 dn:M.down=false
 sep:∀k,td o a.r k→¬RsW a.s k∧k≠a.x∧k≠a.s.sb∧∀b,b<nB c→¬aJ (a.s.dv b) k
 ltB:∀k,RsW a.s k→k<o.B
 lo:∀k,RsW a.s k∨k=a.x→Z.B≤k
section
variable {K:bj}{c:aQ}{Z:ZN}{o:ir K c 2}{a:RaA}{M M':AM K.σ}{S S':Cj}{Dr Dr':Nat→List Int}{w w':World}{P:Nat→Prop}
theorem RKB.agd {i:A9}(h:RKB Z o i M Dr w){g:Nat}{t:TypeId}{cs:Array Value}(hb:Box w g t cs)(h1:3≠t)(h2:5≠t)(hn:¬td o i g)(ho:af (az g) w w'):RKB Z o i M Dr w':=
 ⟨by obtain⟨lv,dv,hr⟩:=h.rc;exact⟨lv,dv,hr.jZ hb h1 h2 hn ho⟩,h.ch,h.dd,h.keys,h.rg,h.en,h.lo,h.right⟩
theorem adY.wr (h:adY Z o a M S Dr w):Wr Z (RaW o a) w:=fun k _ hk=>by
 rcases hk with hk|hk|hk
 ·exact⟨h.adl.lo k hk,.inl ((h.adl.en k).2 hk)⟩
 ·refine⟨h.lo k (.inl hk),.inr fun cs hb=>?_⟩;rcases h.rs.Ns hk hb with e|e<;>exact absurd e aE
 ·refine⟨h.lo k (.inr hk),.inr fun cs hb=>?_⟩;rw[hk]at hb;exact absurd (hb.same h.ak).1 aE
theorem adY.RW (h:adY Z o a M S Dr w){k:Nat}(hk:RaW o a k):k<w.heap.size:=by
 rcases hk with hk|hk|hk
 ·exact Nat.lt_of_lt_of_le (h.adl.rc.RW hk) h.adl.rc.bs
 ·exact h.rs.RW hk
 ·rw[hk];exact h.ak.lt
theorem adY.off (h:adY Z o a M S Dr w)(ho:af P w w')(hW:∀k,RaW o a k→¬P k)(R2:¬P a.s.sb)(hT:∀k cs,P k→¬Box w k 3 cs∧¬Box w k 5 cs):adY Z o a M S Dr w' where
 ak:=ho.ak h.ak (hW _ (.inr (.inr rfl)))
 adl:=⟨h.adl.rc.kN ho (fun k hk=>hW k (.inl hk)) (fun k cs hk _=>hT k cs hk),h.adl.ch,h.adl.dd,h.adl.keys,h.adl.rg,h.adl.en,h.adl.lo,h.adl.right⟩
 rs:=h.rs.off ho (fun k hk=>hW k (.inr (.inl hk))) R2 fun b k hb hk e=>by
  obtain⟨cs,h2⟩:=(h.rs.kz b hb).1.ak hk;exact(hT k cs e).2 h2
 of:=h.of
 fr:=h.fr
 dn:=h.dn
 sep:=h.sep
 ltB:=h.ltB
 lo:=h.lo
theorem adY.keep (h:adY Z o a M S Dr w)(ho:af au w w'):adY Z o a M S Dr w':=h.off ho (fun _ _=>id) id fun _ _ e=>e.elim
theorem adY.cache (h:adY Z o a M S Dr w)(hk:RKB Z o a.r M' Dr' w')(ho:af (td o a.r) w w')(e1:M'.d=M.d)(e2:M'.down=M.down)(e3:M'.reads=M.reads):adY Z o a M' S Dr' w' where
 ak:=by rw[e3];exact ho.ak h.ak fun e=>(h.sep _ e).2.1 rfl
 adl:=hk
 rs:=h.rs.off ho (fun k hk e=>(h.sep k e).1 hk) (fun e=>(h.sep _ e).2.2.1 rfl) fun b k hb hk e=>(h.sep k e).2.2.2 b hb hk
 of:=by rw[e1];exact h.of
 fr:=by rw[e1];exact h.fr
 dn:=by rw[e2];exact h.dn
 sep:=h.sep
 ltB:=h.ltB
 lo:=h.lo
theorem adY.store (h:adY Z o a M S Dr w){dv:Nat→Value}{d':bC}(hr:RsB c {a.s with dv:=dv} S' w')(ho:af (RsW a.s) w w')(hd:∀b k,aJ (dv b) k→aJ (a.s.dv b) k∨w.heap.size≤k)(hof:aeG c d' S')(hf:d'.down=false∧d'.cA= -1):
 adY Z o {a with s:={a.s with dv:=dv}} {M with d:=d'} S' Dr w' where
 ak:=ho.ak h.ak fun e=>by
  obtain⟨h1,h2⟩:(3≠58)∧(35≠58):=aE;rcases h.rs.Ns e h.ak with h3|h3
  ·exact h1 h3.symm
  ·exact h2 h3.symm
 adl:=⟨h.adl.rc.kN ho (fun k hk e=>(h.sep k hk).1 e) (fun k cs e hB=>by have:=h.ltB k e;omega),h.adl.ch,h.adl.dd,h.adl.keys,h.adl.rg,h.adl.en,h.adl.lo,h.adl.right⟩
 rs:=hr
 of:=hof
 fr:=hf
 dn:=h.dn
 sep:=fun k hk=>⟨(h.sep k hk).1,(h.sep k hk).2.1,(h.sep k hk).2.2.1,fun b hb e=>by
  rcases hd b k e with e2|e2
  ·exact(h.sep k hk).2.2.2 b hb e2
  ·have:=h.adl.rc.RW hk;have:=h.adl.rc.bs;omega⟩
 ltB:=h.ltB
 lo:=h.lo
theorem adY.ag0 (h:adY Z o a M S Dr w):adY Z o a (lQ M) S Dr (w.setCell ⟨a.x,19,none⟩ (ah ((M.reads:Int)+1))):=by
 have ho:af (az a.x) w (w.setCell ⟨a.x,19,none⟩ (ah ((M.reads:Int)+1))):=(af.ai (az a.x) w).setCell (p:=⟨a.x,19,none⟩) (.inl (show az a.x a.x from rfl)) _;have hx:∀k,az a.x k→k=a.x:=fun k e=>e
 have h2:=h.ak.store 19 (ah ((M.reads:Int)+1));have e:(raC c a.Aw a.s.sb a.r.cb M.reads).setIfInBounds 19 (ah ((M.reads:Int)+1))=raC c a.Aw a.s.sb a.r.cb (lQ M).reads:=by
  unfold raC ao lQ;rfl
 rw[e]at h2;have R2:¬az a.x a.s.sb:=fun e=>by
  have hb:=h.rs.ak;rw[show a.s.sb=a.x from e]at hb;exact absurd (hb.same h.ak).1 aE
 have hrs:∀k,RsW a.s k→¬az a.x k:=fun k hk e=>by
  rw[hx k e]at hk;rcases h.rs.Ns hk h.ak with e|e<;>exact absurd e aE
 exact {
  ak:=h2
  adl:=by
   have hk:=h.adl.agd h.ak aE aE (fun e=>(h.sep _ e).2.1 rfl) ho;exact⟨hk.rc,hk.ch,hk.dd,hk.keys,hk.rg,hk.en,hk.lo,hk.right⟩
  rs:=h.rs.off ho hrs R2 fun b k hb hk e=>by
   obtain⟨cs,h3⟩:=(h.rs.kz b hb).1.ak hk;rw[hx k e]at h3;exact absurd (h3.same h.ak).1 aE
  of:=h.of
  fr:=h.fr
  dn:=h.dn
  sep:=h.sep
  ltB:=h.ltB
  lo:=h.lo}
theorem adY.cf (h:adY Z o a M S Dr w){i:Nat}(hi:i<16):aF w a.x i (c.f i):=by
 refine h.ak.ag ?_;unfold raC;rw[Array.getElem?_append_left (by show i<17;omega)];exact aL c a.Aw hi
end
def RaP {K:bj}{c:aQ}(Z:ZN)(o:ir K c 2)(a:RaA)(M':AM K.σ)(S:Cj)(T:List PM)(w:World)(e:Ending)(w':World):Prop:=
 ∃u Dr',e= .returned u∧bO Z w' w.heap.size u T∧adY Z o a M' S Dr' w'∧af (RaW o a) w w'
section
variable {σ:Type}{sp:pQ σ}{c:aQ}{M:AM σ}{b lev:Int}{t:List Int}
def ivC (v:Int):Array Value:=#[ah 14,ah 0,ah 0,ah 0,ah 0,ah v,ah 0,ah 0,ah 0,.bool false,aT]
theorem aeQ:(dz sp c M b t lev).reads=M.reads:=by
 unfold dz
 split<;>rfl
theorem afA (h:adW sp c M b t lev=false):lP sp c M b t lev= []:=by
 unfold adW at h;unfold lP
 split
 ·rfl
 ·rename_i h1
  rw[decide_eq_true (by omega:dF c 2 b t.length lev=0),Bool.true_and]at h;rw[if_neg (fun e=>by rw[h]at e;cases e.1)]
theorem ae6 (h:c.f 4≠1):lP sp c M b t lev= []:=by
 unfold lP
 split
 ·rfl
 ·rw[if_neg (fun e=>h e.2)]
theorem aff (h:adW sp c M b t lev=true)(h4:c.f 4=1):lP sp c M b t lev= [AR 14 0 0 0 0 (sp.add M.s b).2.1 0 false []]:=by
 unfold adW at h;rw[Bool.and_eq_true]at h;unfold lP;rw[if_neg (fun e=>e (of_decide_eq_true h.1)),if_pos ⟨h.2,h4⟩]
end
section
variable {c:aQ}{hP:dp c}{hk:2<3}{Z:ZN}{o:ir (bg c 2 hP hk) c 2}{a:RaA}{M:AM (bg c 2 hP hk).σ}{S:Cj}{Dr:Nat→List Int}{w:World}{b lev:Int}{t:List Int}{A:Option Addr}{n:Nat}
theorem afr (h:adY Z o a M S Dr w)(hd:qR Z w (.slice A t.length n) t)(cV:(bg c 2 hP hk).sp.jf M.s<da):
 Calls Tryz.prog 103 #[aO a.x,.agg #[ah b,.slice A t.length n],ah lev] w (RaP Z o a (dz (bg c 2 hP hk).sp c M b t lev) S (lP (bg c 2 hP hk).sp c M b t lev) w):=by
 have HH:=ae h;have fW:=(af.ai au w).alloc (.cells #[ah b,.slice A t.length n] 87);have bc:=ae fW;have kr:=ae<|Box.fresh w 87 #[ah b,.slice A t.length n];have H1:=ae<|h.keep fW;have Ds:=ae<|fun(W:World) (hW:af au (w.alloc (.cells #[ah b,.slice A t.length n] 87)) W)=>afq (b:=b) (lev:=lev) ((h.keep fW).adl.keep hW) ((hd.keep fW).keep hW) cV;have rB:=aq (∀k,td o a.r k→k<w.heap.size) (fun k hk=>h.RW (.inl hk));clear h hd cV fW
 go_enter Tryz.func103,Tryz.ntmps103
 go_upto_region 1 with fail;change Code.wp _ _ _ _ (w.alloc (.cells #[ah b,.slice A t.length n] 87));generalize w.alloc (.cells #[ah b,.slice A t.length n] 87)=W1 at *;obtain⟨fb,iQ⟩:∃fb,fb=w.heap.size:=⟨_,rfl⟩;rw[←iQ]at kr ⊢;have HXF:=aq (¬td o a.r a.x∧¬td o a.r fb) (⟨fun e=>(HH.sep _ e).2.1 rfl,fun e=>by have:=rB.out fb e;omega⟩);have HXG:=aq (¬td o a.r W1.heap.size) (fun e=>by have:=rB.out _ e;have:=bc.size;omega);clear iQ
 go_cut [7] (fun v wx=>∃(adm:Nat) (vb:Int) (u:Value) (cd:Int) (Dr2:Nat→List Int),v=aO adm∧Box wx adm 89 (eJ vb u (adW (bg c 2 hP hk).sp c M b t lev) cd)∧(adW (bg c 2 hP hk).sp c M b t lev=true→vb=((bg c 2 hP hk).sp.add M.s b).2.1)∧RKB Z o a.r (dz (bg c 2 hP hk).sp c M b t lev) Dr2 wx∧af (td o a.r) w wx∧w.heap.size≤adm)
 case first=>
  have k18:aM W1.drew a.x 18 (aO a.r.cb):=H1.ak.ag rfl;have kfb:Box W1.drew fb 87 #[ah b,.slice A t.length n]:=kr.out;refine gg (fun w':World=>aM w' a.x 18 (aO a.r.cb)∧Box w' fb 87 #[ah b,.slice A t.length n]) 8 ?_ ?_
  ·first|exact⟨k18,kfb⟩|exact AZ|exact hS7|exact hS8
  intro aC;refine bE [0,1,2,3] ?_;refine aB (i:=4) (v:=.agg #[ah b,.slice A t.length n]) aS rfl aS (fun _ _ _ h=>h) (yieldsIf_load_mid (by rfl) 87 _ rfl fb 0 (by rfl) (#[ah b,.slice A t.length n]:Array Value).toList _ (fun w' hw j v hj=>by rw[Nat.zero_add];exact Box.ag hw.2 (by rw[←Array.getElem?_toList];exact hj)) Tryz.underlying87 rfl aS) (by assumption) ?_;refine dU ?_;refine bE [5] ?_;refine kE (i:=6) (j:=7) rfl rfl aS (fun Kc hK=>?_) (fun Kc hK=>?_)
  ·go_simp;refine(Ds _ ((af.ai au W1).drew)).mono ?_;rintro e W2 ⟨vb,A2,n2,m2,cd,Dr2,rfl,hg2,AX,bq⟩;have HG2:=ae<|fun e=>(hg2 e).1;have HK2:=ae AX;have bu:=ae bq;have AZ:aM W2 a.x 18 (aO a.r.cb)∧Box W2 fb 87 #[ah b,.slice A t.length n]:=⟨bq.cell aC.1 HXF.1,bq.ak aC.2 HXF.2⟩;clear hg2 AX bq;refine dy hK ?_ fun aC=>?_
   ·first|exact⟨k18,kfb⟩|exact AZ|exact hS7|exact hS8
   clear hK;refine cX 7 fun Kc hK=>?_
   go_simp;have hS8:aM (W2.alloc (.cells (eJ 0 aT false 0) 89)) a.x 18 (aO a.r.cb)∧Box (W2.alloc (.cells (eJ 0 aT false 0) 89)) fb 87 #[ah b,.slice A t.length n]:=⟨((af.ai au W2).alloc _).cell aC.1 id,((af.ai au W2).alloc _).ak aC.2 id⟩;refine dy hK ?_ fun aC=>?_
   ·first|exact⟨k18,kfb⟩|exact AZ|exact hS7|exact hS8
   clear hK;refine dE ?_;clear aC AZ hS8;refine iP (eJ vb (.slice A2 n2 m2) (adW (bg c 2 hP hk).sp c M b t lev) cd) (Box.fresh W2 89 (eJ 0 aT false 0)) (kU _ _ _ _ _ _) ?_;go_wp2_with fail
   go_meet
   case rel=>
    have j:af au W2 ((W2.alloc (.cells (eJ 0 aT false 0) 89)).setRow W2.heap.size (eJ vb (.slice A2 n2 m2) (adW (bg c 2 hP hk).sp c M b t lev) cd)):=((af.ai au W2).alloc _).aw (.inr (dX _)) _;exact⟨W2.heap.size,vb,_,cd,Dr2,rfl,(Box.fresh W2 89 (eJ 0 aT false 0)).aw _,HG2,HK2.keep j,((((bc.drew).mono (S':=td o a.r) fun _ e=>e.elim).trans bu).aG j fun _ e=>e.elim),Nat.le_trans bc.size bu.size⟩
  ·go_simp;have hS7:aM (W1.drew.alloc (.cells (eJ 0 aT false 0) 89)) a.x 18 (aO a.r.cb)∧Box (W1.drew.alloc (.cells (eJ 0 aT false 0) 89)) fb 87 #[ah b,.slice A t.length n]:=⟨((af.ai au W1.drew).alloc _).cell aC.1 id,((af.ai au W1.drew).alloc _).ak aC.2 id⟩;refine dy hK ?_ fun aC=>?_
   ·first|exact⟨k18,kfb⟩|exact AZ|exact hS7|exact hS8
   clear hK;refine cX 6 fun Kc hK=>?_
   go_simp;refine(Ds _ (((af.ai au W1).drew).alloc _)).mono ?_;rintro e W2 ⟨vb,A2,n2,m2,cd,Dr2,rfl,hg2,AX,bq⟩;have HG2:=ae<|fun e=>(hg2 e).1;have HK2:=ae AX;have bu:=ae bq;have AZ:aM W2 a.x 18 (aO a.r.cb)∧Box W2 fb 87 #[ah b,.slice A t.length n]:=⟨bq.cell aC.1 HXF.1,bq.ak aC.2 HXF.2⟩;clear hg2 AX bq;refine dy hK ?_ fun aC=>?_
   ·first|exact⟨k18,kfb⟩|exact AZ|exact hS7|exact hS8
   clear hK;refine dE ?_;clear aC AZ hS7;have hbg:=bu.ak (Box.fresh W1.drew 89 (eJ 0 aT false 0)) HXG;refine wpList_store_row rfl 89 _ _ rfl W1.heap.size (eJ vb (.slice A2 n2 m2) (adW (bg c 2 hP hk).sp c M b t lev) cd) rfl rfl 89 _ hbg aS rfl (kU _ _ _ _ _ _) ?_;go_wp2_with fail
   go_meet
   case rel=>
    have j:af (az W1.heap.size) W2 (W2.setRow W1.heap.size (eJ vb (.slice A2 n2 m2) (adW (bg c 2 hP hk).sp c M b t lev) cd)):=(af.ai (az W1.heap.size) W2).aw (.inl (show az W1.heap.size W1.heap.size from rfl)) _;exact⟨W1.heap.size,vb,_,cd,Dr2,rfl,hbg.aw _,HG2,HK2.agd hbg aE aE HXG j,((((bc.drew.alloc _).mono (S':=td o a.r) fun _ e=>e.elim).trans bu).aG j fun k hk=>.inr (by rw[show k=W1.heap.size from hk];exact bc.size)),bc.size⟩
 case rest=>
  obtain⟨adm,vb,u,cd,Dr2,rfl,hbg,hgv,AX,bq,hgb⟩:=hcut;have hH:=HH.cache AX bq DR.1 DR.2 aeQ;have HH2:=ae hH;have Gq:=ae<|bq.mono (S':=RaW o a) fun k e=>.inl (.inl e);have HGV:=ae hgv;have x2:aM wc adm 2 (.bool (adW (bg c 2 hP hk).sp c M b t lev)):=hbg.ag rfl;have x0:aF wc adm 0 vb:=hbg.ag rfl;have x4:aF wc a.x 4 (c.f 4):=hH.cf aE;clear hbg hgv AX bq hgb hH HH H1 kr Ds HXF HXG rB;obtain⟨W4,hW4⟩:∃W4,W4=wc:=⟨_,rfl⟩;subst hW4;generalize hg:adW (bg c 2 hP hk).sp c M b t lev=g at *
  cases g with
  |false=>
   have HT:=ae<|afA hg;clear hg;go_wp2_with fail;go_ret;exact⟨_,Dr2,rfl,by rw[HT.out];exact bO.nil _ _ _,HH2,Gq⟩
  |true=>
   by_cases c4:c.f 4=1
   ·have HT:=ae<|aff hg c4;have UH:=HGV.out rfl;rw[c4]at x4;clear hg c4;have HVB:=ae UH;clear UH;have cy:=ae<|World.ownsRow_nil (W4.alloc (.cells (ivC vb) 37)) w.heap.size 37 11;have fW:=(af.ai au W4).alloc (.cells (ivC vb) 37);have Dt:=ae fW;have lh:=aq (w.heap.size≤(W4.alloc (.cells (ivC vb) 37)).heap.size) (by have h1:=Gq.size;have h2:=fW.size;omega);clear fW;go_wp2_with (at_builtin;refine fE _ rfl (.tmp 26) (.tmp 31) 43 37 rfl qA rfl aE Tryz.underlying43 w.heap.size _ 0 _ (ivC vb).toList rfl cy ⟨W4.heap.size,0,none⟩ rfl rfl (iH W4 _ _) (by simp[ivC,Value.oneCell']) eV aj lh ?_;intro v8 W8 h8 iz _;have KJ:=ae<|bO.app (Z:=Z) (v':=undef) (X:=[]) (L:=[]) (AR 14 0 0 0 0 vb 0 false [],aT) h8 rfl (fun q hq=>by cases hq) (qR.nil _ _);have rA:=ae<|iz.mono (S':=au) fun k e=>(bo e).elim;obtain⟨A8,c8,e8,_,_⟩:=iV h8;subst e8;clear h8 iz);go_ret;have hj:=Dt.trans rA;refine⟨_,Dr2,rfl,?_,HH2.keep hj,Gq.aG hj fun _ e=>e.elim⟩;rw[HT.out,←HVB.out];exact KJ
   ·have HT:=ae<|ae6 (sp:=(bg c 2 hP hk).sp) (M:=M) (b:=b) (t:=t) (lev:=lev) c4;have b4:(c.f 4==1)=false:=by simpa using c4
    clear hg c4;go_wp2_with fail;go_ret;exact⟨_,Dr2,rfl,by rw[HT.out];exact bO.nil _ _ _,HH2,Gq⟩
end
theorem aeJ {σ:Type}{sp:pQ σ}{M:AM σ}{b:Int}:(dC sp M b).reads=M.reads:=by
 unfold dC
 split<;>rfl
section
variable {c:aQ}{hP:dp c}{hk:2<3}{Z:ZN}{o:ir (bg c 2 hP hk) c 2}{a:RaA}{M:AM (bg c 2 hP hk).σ}{S:Cj}{Dr:Nat→List Int}{w:World}{b lev:Int}{t:List Int}{A:Option Addr}{n:Nat}
theorem aet{P:Prop}(h:P:=by
 have k18:aM W2.drew a.x 18 (aO a.r.cb):=H2.ak.ag rfl;have k0:aF W2.drew fb 0 b:=lE.ag rfl;go_upto_region 2 with fail;have HDR:=ae<|ae8 (H2.adl.keep ((af.ai au W2).drew)) b;refine gg (fun w':World=>aM w' a.x 18 (aO a.r.cb)∧aF w' fb 0 b) 6 ?_ ?_
 ·first|assumption|exact⟨k18,k0⟩|exact uF
 intro aC;refine bE [0,1,2,3,4,5] ?_;refine dE ?_;go_wp2_with (go_at_call 47;refine HDR.mono ?_;rintro e W3 ⟨b',A3,n3,m3,rfl,Gj,bV⟩);go_ret;have hd:=(H2.keep ((af.ai au W2).drew)).cache Gj bV zT.1 zT.2 aeJ;refine⟨_,Dr,rfl,by rw[HK.2];exact bO.nil _ _ _,by rw[HK.1];exact hd,?_⟩;exact((bu.drew).mono (S':=RaW o a) fun _ e=>e.elim).trans (bV.mono fun k e=>.inl (.inl e))):P:=h
theorem aeo{P:Prop}(h:P:=by
 go_wp2_with (first|(refine iy #[ah b,.slice A t.length n] lE Tryz.underlying87 ?_)|(go_at_call 103;refine HPU.mono ?_;rintro e W3 ⟨u,Dr3,rfl,Dd,h3,bV⟩));go_ret;refine⟨u,Dr3,rfl,?_,?_,(bu.mono (S':=RaW o a) fun _ e=>e.elim).trans bV⟩
 ·rw[HK.2];exact Dd.low bu.size
 ·rw[HK.1];exact h3):P:=h
theorem aez{P:Prop}(h:P:=by unfold bU cU;rw[if_pos HN.out,if_pos HN.out];exact⟨rfl,rfl⟩):P:=h
theorem aeA{P:Prop}(h:P:=by unfold bU cU;rw[if_neg HN.out,if_neg HN.out];exact⟨rfl,rfl⟩):P:=h
theorem afn (h:adY Z o a M S Dr w)(hd:qR Z w (.slice A t.length n) t)(cV:(bg c 2 hP hk).sp.jf M.s<da):
 Calls Tryz.prog 74 #[aO a.x,.agg #[ah b,.slice A t.length n],ah lev] w (RaP Z o a (bU (bg c 2 hP hk).sp c M b t lev) S (cU (bg c 2 hP hk).sp c M b t lev) w):=by
 have HH:=ae h;have HD:=ae hd;have Gv:=ae cV;have fW:=(af.ai au w).alloc (.cells #[ah b,.slice A t.length n] 87);have bc:=ae fW;have kr:=ae<|Box.fresh w 87 #[ah b,.slice A t.length n];have H1:=ae<|h.keep fW;clear h hd cV fW
 go_enter Tryz.func74,Tryz.ntmps74
 go_upto_region 1 with fail;change Code.wp _ _ _ _ (w.alloc (.cells #[ah b,.slice A t.length n] 87));generalize w.alloc (.cells #[ah b,.slice A t.length n] 87)=W1 at *;obtain⟨fb,iQ⟩:∃fb,fb=w.heap.size:=⟨_,rfl⟩;rw[←iQ]at kr ⊢;clear iQ;have x4:aF W1 a.x 4 (c.f 4):=H1.cf aE;have ZZ:aM W1 a.x 18 (aO a.r.cb):=H1.ak.ag rfl;have f0:aF W1 fb 0 b:=kr.ag rfl
 by_cases c4:c.f 4=2
 ·have SD:=ae c4;rw[c4]at x4;clear c4
  by_cases c3:lev=3
  ·subst c3
   cases QK:cg c 2 b 3 with
   |true=>
    have HN:=aq (c.f 4≠2∨((3:Int)=3∧cg c 2 b 3=true)) (.inr ⟨rfl,QK⟩);have pF:=ae QK;clear QK;refine gg (fun w':World=>aF w' a.x 4 2∧aM w' a.x 18 (aO a.r.cb)∧aF w' fb 0 b) 20 ?_ ?_
    ·first|exact⟨x4,ZZ,f0⟩|exact r9
    intro aC;refine bE [0,1,2,3,4,5,6,7,8,9,10,11,12,13,14,15,16] ?_;refine cX 17 fun Kc hK=>?_
    go_simp;refine(aeY (H1.adl.keep ((af.ai au W1).drew)) b 3).mono ?_;rintro e W2 ⟨rfl,bq⟩;have bu:=ae<|((af.ai au W1).drew).trans bq;have r9:=And.intro (bq.cell aC.1 id) (And.intro (bq.cell aC.2.1 id) (bq.cell aC.2.2 id));rw[pF.out];clear bq;refine dy hK ?_ fun aC=>?_
    ·first|exact⟨x4,ZZ,f0⟩|exact r9
    clear hK;refine bE [18,19] ?_;refine dE ?_;clear aC r9;have lE:=aq (Box W2 fb 87 #[ah b,.slice A t.length n]) (bu.ak kr id);have H2:=ae<|H1.keep bu;have hO2:=bc.trans bu;clear x4 ZZ f0 bu;have bu:=ae hO2;clear hO2;have HK:=aq (bU (bg c 2 hP hk).sp c M b t 3=dz (bg c 2 hP hk).sp c M b t 3∧cU (bg c 2 hP hk).sp c M b t 3=lP (bg c 2 hP hk).sp c M b t 3) aez;have HPU:=ae<|afr (b:=b) (lev:=3) H2 (HD.keep bu) Gv;exact aeo
   |false=>
    have HN:=aq (¬(c.f 4≠2∨((3:Int)=3∧cg c 2 b 3=true))) (fun e=>e.elim (fun e=>e SD) fun e=>by rw[QK]at e;cases e.2);have pF:=ae QK;clear QK;refine gg (fun w':World=>aF w' a.x 4 2∧aM w' a.x 18 (aO a.r.cb)∧aF w' fb 0 b) 20 ?_ ?_
    ·first|exact⟨x4,ZZ,f0⟩|exact r9
    intro aC;refine bE [0,1,2,3,4,5,6,7,8,9,10,11,12,13,14,15,16] ?_;refine cX 17 fun Kc hK=>?_
    go_simp;refine(aeY (H1.adl.keep ((af.ai au W1).drew)) b 3).mono ?_;rintro e W2 ⟨rfl,bq⟩;have bu:=ae<|((af.ai au W1).drew).trans bq;have r9:=And.intro (bq.cell aC.1 id) (And.intro (bq.cell aC.2.1 id) (bq.cell aC.2.2 id));rw[pF.out];clear bq;refine dy hK ?_ fun aC=>?_
    ·first|exact⟨x4,ZZ,f0⟩|exact r9
    clear hK;refine bE [18,19] ?_;refine dE ?_;clear aC r9;have lE:=aq (Box W2 fb 87 #[ah b,.slice A t.length n]) (bu.ak kr id);have H2:=ae<|H1.keep bu;have hO2:=bc.trans bu;clear x4 ZZ f0 bu;have bu:=ae hO2;clear hO2;have HK:=aq (bU (bg c 2 hP hk).sp c M b t 3=dC (bg c 2 hP hk).sp M b∧cU (bg c 2 hP hk).sp c M b t 3= []) aeA;exact aet
  ·have HN:=aq (¬(c.f 4≠2∨(lev=3∧cg c 2 b lev=true))) (fun e=>e.elim (fun e=>e SD) fun e=>c3 e.1);have QQ:(lev != 3)=true:=by simpa using c3
   have US:(lev==3)=false:=by simpa using c3
   go_quiet (fail)
   clear c3;have lE:=aq (Box (W1.drewN nq) fb 87 #[ah b,.slice A t.length n]) (((af.ai au W1).drewN nq).ak kr id);have H2:=ae<|H1.keep ((af.ai au W1).drewN nq);have bu:=ae<|bc.trans ((af.ai au W1).drewN nq);clear x4 ZZ f0;generalize W1.drewN nq=W2 at *;have HK:=aq (bU (bg c 2 hP hk).sp c M b t lev=dC (bg c 2 hP hk).sp M b∧cU (bg c 2 hP hk).sp c M b t lev= []) aeA;exact aet
 ·have HN:=aq (c.f 4≠2∨(lev=3∧cg c 2 b lev=true)) (.inl c4);have U5:(c.f 4==2)=false:=by simpa using c4
  go_quiet (fail)
  clear c4;have lE:=aq (Box (W1.drewN nq) fb 87 #[ah b,.slice A t.length n]) (((af.ai au W1).drewN nq).ak kr id);have H2:=ae<|H1.keep ((af.ai au W1).drewN nq);have bu:=ae<|bc.trans ((af.ai au W1).drewN nq);clear x4 ZZ f0;generalize W1.drewN nq=W2 at *;have HK:=aq (bU (bg c 2 hP hk).sp c M b t lev=dz (bg c 2 hP hk).sp c M b t lev∧cU (bg c 2 hP hk).sp c M b t lev=lP (bg c 2 hP hk).sp c M b t lev) aez;have HPU:=ae<|afr (b:=b) (lev:=lev) H2 (HD.keep bu) Gv;exact aeo
end
theorem adY.kz {K:bj}{c:aQ}{Z:ZN}{o:ir K c 2}{a:RaA}{M:AM K.σ}{S:Cj}{Dr:Nat→List Int}{w:World}(h:adY Z o a M S Dr w){b:Nat}(hb:b<nB c):qR Z w (a.s.dv b) (S.kz b):=
 qR.row (h.rs.kz b hb).1 (by have:=(h.rs.kz b hb).2;omega) fun k hk e=>(h.sep k ((h.adl.en k).1 e)).2.2.2 b hb hk
section
variable {c:aQ}{hP:dp c}{hk:2<3}{Z:ZN}{o:ir (bg c 2 hP hk) c 2}{a:RaA}{M:AM (bg c 2 hP hk).σ}{S:Cj}{Dr:Nat→List Int}{w:World}{m:dI}{A:Option Addr}{n cp:Nat}
theorem ad2{P:Prop}(h:P:=by
 obtain⟨_,cs',h3⟩:=(HMM.keep Dt).ak e;exact⟨fun hb=>absurd (h3.same hb).1 aE,fun hb=>absurd (h3.same hb).1 aE⟩):P:=h
theorem aex{P:Prop}(h:P:=by
 go_ret;have hx8:=(HX7.keep Dt).off rA (fun k hk e=>by have h1:=(HMM.ak e).1;have h2:=rB.out k hk;have h3:=afJ.out;omega) (fun e=>by have h1:=(HMM.ak e).1;have h2:=HX.rs.ak.lt;omega) fun k cs e=>by
  exact ad2
 exact⟨_,_,rfl,by rw[HT.2];exact HM8.low afJ,by rw[HT.1];exact hx8,(St.aG Dt fun _ e=>e.elim).aG rA fun k hk=>.inr (Nat.le_trans afJ ((HMM.keep Dt).ak hk).1)⟩):P:=h
theorem aed{P:Prop}(h:P:=by have h9:=AF.out;rw[←e1,List.length_map]at h9;exact h9):P:=h
theorem adS{P:Prop}(h:P:=by have h9:=AF.out;rw[←f1,List.length_map]at h9;exact h9):P:=h
theorem adT{P:Prop}(h:P:=by unfold maxLen;have:=HYL.out;omega):P:=h
theorem adU{P:Prop}(h:P:=by have:=HYL.out;omega):P:=h
theorem afL (h:adY Z o a M S Dr w)(yU:0≤m.f 5)(cV:(bg c 2 hP hk).sp.jf M.s+1<da)(E4:M.reads<1000000):
 Calls Tryz.prog 44 #[aO a.x,.agg (bd m (.slice A n cp))] w (RaP Z o a (dr (bg c 2 hP hk).sp c M (m.f 5) (m.f 6)) S (gQ (bg c 2 hP hk).sp c M (m.f 5) (m.f 6)) w):=by
 have HH:=ae h;have Gv:=ae cV;have AH:=ae E4;have Be:=ae yU;have fW:=(af.ai au w).alloc (.cells (bd m (.slice A n cp)) 37);have bc:=ae fW;have AJ:=ae<|Box.fresh w 37 (bd m (.slice A n cp));have H1:=ae<|h.keep fW;have rB:=aq (∀k,RaW o a k→k<w.heap.size) (fun k hk=>h.RW hk);clear h cV E4 yU fW
 go_enter Tryz.func44,Tryz.ntmps44
 go_upto_region 1 with fail;change Code.wp _ _ _ _ (w.alloc (.cells (bd m (.slice A n cp)) 37));generalize w.alloc (.cells (bd m (.slice A n cp)) 37)=W1 at *;obtain⟨qb,qY⟩:∃qb,qb=w.heap.size:=⟨_,rfl⟩;rw[←qY]at AJ ⊢;have Xj:=aq (¬RaW o a qb) (fun e=>by have:=rB.out qb e;omega);have HXF:=aq (¬td o a.r a.x∧¬td o a.r qb) (⟨fun e=>(HH.sep _ e).2.1 rfl,fun e=>Xj (.inl e)⟩);clear qY;have q5:aF W1 qb 5 (m.f 5):=AJ.ag rfl;have x2:aF W1 a.x 2 (c.f 2):=H1.cf aE
 by_cases hb:m.f 5<c.f 2
 ·have b1:decide (c.f 2≤m.f 5)=false:=decide_eq_false aj;have HB:=ae hb;clear hb
  go_quiet (fail)
  have H2:=ae<|H1.keep ((af.ai au W1).drewN nq);have qQ:=aq (Box (W1.drewN nq) qb 37 (bd m (.slice A n cp))) (((af.ai au W1).drewN nq).ak AJ id);have bu:=ae<|bc.trans ((af.ai au W1).drewN nq);clear q5 x2 H1 AJ bc;generalize W1.drewN nq=W2 at *;go_upto_region 3 with fail;have k18:aM W2.drew a.x 18 (aO a.r.cb):=H2.ak.ag rfl;have k5:aF W2.drew qb 5 (m.f 5):=qQ.ag rfl
  cases hD:M.D (m.f 5)with
  |some t=>
   have HU:=ae<|afe (H2.adl.keep ((af.ai au W2).drew)) hD gL;have HT0:=aq (dr (bg c 2 hP hk).sp c M (m.f 5) (m.f 6)=(if c.f 4=2 then bU (bg c 2 hP hk).sp c (pL (bg c 2 hP hk).sp M (m.f 5)) (m.f 5) t (m.f 6)else pL (bg c 2 hP hk).sp M (m.f 5))∧gQ (bg c 2 hP hk).sp c M (m.f 5) (m.f 6)=(if c.f 4=2 then cU (bg c 2 hP hk).sp c (pL (bg c 2 hP hk).sp M (m.f 5)) (m.f 5) t (m.f 6)else[]) ++ [AR 12 0 0 0 0 (m.f 5) 0 false t]) (by unfold dr gQ;rw[hD];exact⟨rfl,rfl⟩);have af7:=aq ((bg c 2 hP hk).sp.jf (pL (bg c 2 hP hk).sp M (m.f 5)).s<da) (by have h1:=((bg c 2 hP hk).oc (Classical.choice (by obtain⟨i,_,_⟩:=HH.adl.ch;exact⟨i⟩))).KE M.s (m.f 5);have h2:=Gv.out;exact Nat.lt_of_le_of_lt h1 h2);clear hD;refine gg (fun w':World=>aM w' a.x 18 (aO a.r.cb)∧aF w' qb 5 (m.f 5)) 11 ?_ ?_
   ·first|exact⟨k18,k5⟩|exact uF
   intro aC;refine bE [0,1,2,3,4,5] ?_;refine cX 6 fun Kc hK=>?_
   go_simp;refine HU.mono ?_;rintro e W3 ⟨Aq,n0,cq,rfl,hd3,Gj,bV⟩;have bI:=ae bV;have uF:=And.intro (bV.cell aC.1 HXF.1) (bV.cell aC.2 HXF.2);obtain rfl:=hd3.1.len.1;have HD3:=ae hd3;have HK3:=ae Gj;clear hd3 Gj bV;refine dy hK ?_ fun aC=>?_
   ·first|exact⟨k18,k5⟩|exact uF
   clear hK;refine bE [7,8,9,10] ?_;refine dE ?_;clear aC uF k18 k5;have HX:=ae<|(H2.keep ((af.ai au W2).drew)).cache HK3 bI rfl rfl rfl;have HD:=HD3;have HQ:=ae<|bI.ak (show Box W2.drew qb 37 (bd m (.slice A n cp))from qQ) HXF.2;have HPX:=ae<|((bu.drew).mono (S':=RaW o a) fun _ e=>e.elim).trans (bI.mono fun k e=>.inl (.inl e));have y4:aF W3 a.x 4 (c.f 4):=HX.cf aE;clear HD3 HK3 H2 qQ
   by_cases c4:c.f 4=2
   ·have HT:=aq (dr (bg c 2 hP hk).sp c M (m.f 5) (m.f 6)=bU (bg c 2 hP hk).sp c (pL (bg c 2 hP hk).sp M (m.f 5)) (m.f 5) t (m.f 6)∧gQ (bg c 2 hP hk).sp c M (m.f 5) (m.f 6)=cU (bg c 2 hP hk).sp c (pL (bg c 2 hP hk).sp M (m.f 5)) (m.f 5) t (m.f 6) ++ [AR 12 0 0 0 0 (m.f 5) 0 false t]) (by rw[HT0.1,HT0.2,if_pos c4,if_pos c4];exact⟨rfl,rfl⟩);rw[c4]at y4;clear c4;go_upto_region 9 with fail;clear y4;have HUP:=ae<|afn (b:=m.f 5) (lev:=m.f 6) HX HD af7;have AF:=ae<|r7 (sp:=(bg c 2 hP hk).sp) (c:=c) (M:=pL (bg c 2 hP hk).sp M (m.f 5)) (b:=m.f 5) (t:=t) (lev:=m.f 6);have qx:=aq (Z.B≤W3.heap.size) (Nat.le_trans (HX.lo a.x (.inr rfl)) (Nat.le_of_lt HX.ak.lt));have z5:aF W3 qb 5 (m.f 5):=HQ.ag rfl;have z6:aF W3 qb 6 (m.f 6):=HQ.ag rfl;go_upto_region 10 with(first|(go_at_call 74;refine HUP.mono ?_;rintro e W6 ⟨u,Dr6,rfl,hm6,h6,fI⟩;have Nh:=ae hm6;have HX6:=ae h6;have iu:=ae fI;obtain⟨X,e1,r1,d1⟩:=hm6;have uJ:=ae e1;have cy:=ae r1;have Ki:=ae d1;have Ve:=aq (X.length≤1) aed;clear h6 fI e1 r1 d1)|(at_builtin;refine aei _ rfl (.tmp 60) (.tmp 68) 43 37 rfl qA rfl aE Tryz.underlying43 W3.heap.size _ 0 _ rfl (World.ownsRow_nil _ _ _ _) W3.heap.size _ X.length _ rfl cy (aeS Ki) fa eY iu.size ?_;intro v7 W7 h7 l4 _;have pz:=ae<|l4.mono (S':=au) fun k e=>(bo e).elim;have wS:=ae<|bO.cat (X:=[]) (L:=[]) h7 rfl uJ (fun q hq=>by cases hq) (fun q hq=>(Ki q hq).keep pz);obtain⟨A7,c7,e7,_,_⟩:=iV h7;subst e7;clear h7 l4));clear z5 z6;have HX7:=ae<|HX6.keep pz;have HQ7:=ae<|pz.ak (iu.ak HQ Xj) id;have XB:=ae<|(HD.ar iu HX.wr).keep pz;have St:=ae<|(HPX.trans iu).aG pz fun _ e=>e.elim;have afJ:=aq (w.heap.size≤W3.heap.size) (HPX.size);have NB:=wS.out;rw[List.nil_append,Nat.zero_add]at NB;have HMM:=ae NB;clear NB;obtain⟨Y,f1,q1,g1⟩:=HMM.out;have HYL:=aq (Y.length≤1) adS;have fW:=(af.ai au W7).alloc (.cells (wQ (m.f 5) (.slice Aq (t).length cq)) 37);have kr:=ae f1;have AJ:=ae<|q1.alloc (.cells (wQ (m.f 5) (.slice Aq (t).length cq)) 37);have HG1:=ae<|fun q hq=>(g1 q hq).keep fW;have HDA:=ae<|XB.keep fW;have Dt:=ae fW;have aeL:=aq (W3.heap.size≤(W7.alloc (.cells (wQ (m.f 5) (.slice Aq (t).length cq)) 37)).heap.size) (Nat.le_trans (Nat.le_trans iu.size pz.size) fW.size);have HWR:=ae<|(HMM.keep fW).wr qx;have z5:aF W7 qb 5 (m.f 5):=HQ7.ag rfl;clear f1 q1 g1 fW;go_wp2_with (at_builtin;refine fE _ rfl (.tmp 70) (.tmp 75) 43 37 rfl qA rfl aE Tryz.underlying43 W3.heap.size _ Y.length _ (wQ (m.f 5) (.slice Aq (t).length cq)).toList rfl AJ ⟨W7.heap.size,0,none⟩ rfl rfl (iH W7 _ _) adR adT adU aeL ?_;intro v8 W8 h8 iz _;have HM8:=ae<|bO.app (v':=undef) (AR 12 0 0 0 0 (m.f 5) 0 false t,.slice Aq (t).length cq) h8 kr (fun q hq=>(HG1 q hq).ar iz HWR) (HDA.ar iz HWR);have rA:=ae iz;obtain⟨A8,c8,e8,_,_⟩:=iV h8;subst e8;clear h8 iz)
    exact aex
   ·have HT:=aq (dr (bg c 2 hP hk).sp c M (m.f 5) (m.f 6)=pL (bg c 2 hP hk).sp M (m.f 5)∧gQ (bg c 2 hP hk).sp c M (m.f 5) (m.f 6)= [] ++ [AR 12 0 0 0 0 (m.f 5) 0 false t]) (by rw[HT0.1,HT0.2,if_neg c4,if_neg c4];exact⟨rfl,rfl⟩);have b4:(c.f 4==2)=false:=by simpa using c4
    clear c4;go_upto_region 10 with fail;clear y4;have AF:=aq (([]:List PM).length≤1) (fH _);have HMM:=ae<|bO.nil Z W3 w.heap.size;have HX7:=HX;have HQ7:=HQ;have XB:=HD;have St:=HPX;have qx:=aq (Z.B≤w.heap.size) (Nat.le_trans (HH.lo a.x (.inr rfl)) (Nat.le_of_lt HH.ak.lt));obtain⟨Y,f1,q1,g1⟩:=HMM.out;have HYL:=aq (Y.length≤1) adS;have fW:=(af.ai au W3).alloc (.cells (wQ (m.f 5) (.slice Aq (t).length cq)) 37);have kr:=ae f1;have AJ:=ae<|q1.alloc (.cells (wQ (m.f 5) (.slice Aq (t).length cq)) 37);have HG1:=ae<|fun q hq=>(g1 q hq).keep fW;have HDA:=ae<|XB.keep fW;have Dt:=ae fW;have aeL:=aq (w.heap.size≤(W3.alloc (.cells (wQ (m.f 5) (.slice Aq (t).length cq)) 37)).heap.size) (Nat.le_trans HPX.size fW.size);have HWR:=ae<|(HMM.keep fW).wr qx;have z5:aF W3 qb 5 (m.f 5):=HQ7.ag rfl;clear f1 q1 g1 fW;go_wp2_with (at_builtin;refine fE _ rfl (.tmp 70) (.tmp 75) 43 37 rfl qA rfl aE Tryz.underlying43 w.heap.size _ Y.length _ (wQ (m.f 5) (.slice Aq (t).length cq)).toList rfl AJ ⟨W3.heap.size,0,none⟩ rfl rfl (iH W3 _ _) adR adT adU aeL ?_;intro v8 W8 h8 iz _;have HM8:=ae<|bO.app (v':=undef) (AR 12 0 0 0 0 (m.f 5) 0 false t,.slice Aq (t).length cq) h8 kr (fun q hq=>(HG1 q hq).ar iz HWR) (HDA.ar iz HWR);have rA:=ae iz;obtain⟨A8,c8,e8,_,_⟩:=iV h8;subst e8;clear h8 iz);go_ret;have hx8:=(HX7.keep Dt).off rA (fun k hk e=>by exact(bo e).elim) (fun e=>by exact(bo e).elim) fun k cs e=>by
     exact ad2
    exact⟨_,_,rfl,by rw[HT.2];exact HM8.low (dX _),by rw[HT.1];exact hx8,(St.aG Dt fun _ e=>e.elim).aG rA fun k hk=>.inr (Nat.le_trans (dX _) ((HMM.keep Dt).ak hk).1)⟩
  |none=>
   have HU:=ae<|afd (H2.adl.keep ((af.ai au W2).drew)) hD;have HT:=aq (dr (bg c 2 hP hk).sp c M (m.f 5) (m.f 6)=bU (bg c 2 hP hk).sp c (lQ M) (m.f 5) (ec c M (m.f 5)).2 (m.f 6)∧gQ (bg c 2 hP hk).sp c M (m.f 5) (m.f 6)=cU (bg c 2 hP hk).sp c (lQ M) (m.f 5) (ec c M (m.f 5)).2 (m.f 6) ++ [AR 12 0 0 0 0 (m.f 5) 0 false (ec c M (m.f 5)).2]) (by unfold dr gQ;rw[hD];dsimp only;rw[if_pos ⟨Be.out,HB.out⟩,if_pos ⟨Be.out,HB.out⟩];exact⟨rfl,rfl⟩);have af7:=aq ((bg c 2 hP hk).sp.jf (lQ M).s<da) (by have h2:=Gv.out;show(bg c 2 hP hk).sp.jf M.s<da;omega);clear hD;refine gg (fun w':World=>aM w' a.x 18 (aO a.r.cb)∧aF w' qb 5 (m.f 5)) 11 ?_ ?_
   ·first|exact⟨k18,k5⟩|exact uF
   intro aC;refine bE [0,1,2,3,4,5] ?_;refine cX 6 fun Kc hK=>?_
   go_simp;refine HU.mono ?_;rintro e W3 ⟨rfl,bV⟩;have bI:=ae bV;have uF:=And.intro (bV.cell aC.1 id) (bV.cell aC.2 id);clear bV;refine dy hK ?_ fun aC=>?_
   ·first|exact⟨k18,k5⟩|exact uF
   clear hK;refine bE [7,8,9,10] ?_;refine dE ?_;clear aC uF k18 k5;have H3:=ae<|(H2.keep ((af.ai au W2).drew)).keep bI;have Gp:=ae<|bI.ak (show Box W2.drew qb 37 (bd m (.slice A n cp))from qQ) id;have agK:=ae<|(bu.drew).trans bI;obtain⟨adn,JZ⟩:∃adn:Nat,(m.f 5).toNat=adn:=⟨_,rfl⟩;have M4:m.f 5=(adn:Int):=by have:=Be.out;omega
   have Fa:adn<nB c:=by have h1:=HB.out;have h2:=aeB H3.adl.right;omega
   have je:(ec c M (m.f 5)).2=S.kz adn:=by unfold ec;rw[JZ,H3.of.bl adn Fa]
   obtain⟨Aq,cq,VZ⟩:=(H3.rs.kz adn Fa).shape;rw[←je]at VZ;have hdd:=H3.kz Fa;rw[←je,VZ]at hdd;have HD3:=ae hdd;have x17:aM W3 a.x 17 (aO a.s.sb):=H3.ak.ag rfl;have ado:aM W3 a.s.sb 5 (bp a.s.db (nB c) a.s.dc):=H3.rs.ak.ag rfl;have q5:aF W3 qb 5 ((adn:Nat):Int):=by rw[←M4];exact Gp.ag rfl
   have d5:aM W3 a.s.db adn (.slice Aq (ec c M (m.f 5)).2.length cq):=by rw[←VZ];exact(H3.rs.ac0 Fa).1
   have tZ:(adn:Int)<(nB c:Nat):=aj;clear JZ M4 je VZ hdd bI bu H2 qQ Fa;go_upto_region 5 with fail
   go_quiet (fail)
   have hdr:=(af.ai au W3).drewN nq;have H4:=ae<|H3.keep hdr;have xF:=ae<|hdr.ak Gp id;have Kh:=ae<|HD3.keep hdr;have cr:=ae<|agK.trans hdr;clear x17 ado q5 d5 tZ hdr H3 Gp HD3 agK;generalize W3.drewN nq=W4 at *;have x19:aF W4 a.x 19 (M.reads:Int):=H4.ak.ag rfl;have g19:W4.frozen? ⟨a.x,19,none⟩=false:=H4.ak.free _;have hw:IntKind.i64.wrap ((M.reads:Int)+1)=(M.reads:Int)+1:=by rw[IntKind.wrap_i64];have:=AH.out;omega
   go_upto_region 7 with fail;have hj:af (az a.x) W4 (W4.setCell ⟨a.x,19,none⟩ (ah ((M.reads:Int)+1))):=(af.ai (az a.x) W4).setCell (p:=⟨a.x,19,none⟩) (.inl (show az a.x a.x from rfl)) _;have HX:=ae H4.ag0;have HQ:=ae<|hj.ak xF fun e=>Xj (.inr (.inr (show qb=a.x from e)));have HD:=ae<|Kh.ar hj fun k hk e=>H4.wr k hk (.inr (.inr (show k=a.x from e)));have HPX:=ae<|(cr.mono (S':=RaW o a) fun _ e=>e.elim).trans (hj.mono fun k e=>.inl (.inr (.inr (show k=a.x from e))));change Code.wp _ _ _ _ (W4.setCell ⟨a.x,19,none⟩ (ah ((M.reads:Int)+1)));clear x19 g19 hw hj H4 xF Kh cr;generalize W4.setCell ⟨a.x,19,none⟩ (ah ((M.reads:Int)+1))=W5 at *;go_upto_region 9 with fail;have HUP:=ae<|afn (b:=m.f 5) (lev:=m.f 6) HX HD af7;have AF:=ae<|r7 (sp:=(bg c 2 hP hk).sp) (c:=c) (M:=lQ M) (b:=m.f 5) (t:=(ec c M (m.f 5)).2) (lev:=m.f 6);have qx:=aq (Z.B≤W5.heap.size) (Nat.le_trans (HX.lo a.x (.inr rfl)) (Nat.le_of_lt HX.ak.lt));have z5:aF W5 qb 5 (m.f 5):=HQ.ag rfl;have z6:aF W5 qb 6 (m.f 6):=HQ.ag rfl;go_upto_region 10 with(first|(go_at_call 74;refine HUP.mono ?_;rintro e W6 ⟨u,Dr6,rfl,hm6,h6,fI⟩;have Nh:=ae hm6;have HX6:=ae h6;have iu:=ae fI;obtain⟨X,e1,r1,d1⟩:=hm6;have uJ:=ae e1;have cy:=ae r1;have Ki:=ae d1;have Ve:=aq (X.length≤1) aed;clear h6 fI e1 r1 d1)|(at_builtin;refine aei _ rfl (.tmp 60) (.tmp 68) 43 37 rfl qA rfl aE Tryz.underlying43 W5.heap.size _ 0 _ rfl (World.ownsRow_nil _ _ _ _) W5.heap.size _ X.length _ rfl cy (aeS Ki) fa eY iu.size ?_;intro v7 W7 h7 l4 _;have pz:=ae<|l4.mono (S':=au) fun k e=>(bo e).elim;have wS:=ae<|bO.cat (X:=[]) (L:=[]) h7 rfl uJ (fun q hq=>by cases hq) (fun q hq=>(Ki q hq).keep pz);obtain⟨A7,c7,e7,_,_⟩:=iV h7;subst e7;clear h7 l4));clear z5 z6;have HX7:=ae<|HX6.keep pz;have HQ7:=ae<|pz.ak (iu.ak HQ Xj) id;have XB:=ae<|(HD.ar iu HX.wr).keep pz;have St:=ae<|(HPX.trans iu).aG pz fun _ e=>e.elim;have afJ:=aq (w.heap.size≤W5.heap.size) (HPX.size);have NB:=wS.out;rw[List.nil_append,Nat.zero_add]at NB;have HMM:=ae NB;clear NB;obtain⟨Y,f1,q1,g1⟩:=HMM.out;have HYL:=aq (Y.length≤1) adS;have fW:=(af.ai au W7).alloc (.cells (wQ (m.f 5) (.slice Aq ((ec c M (m.f 5)).2).length cq)) 37);have kr:=ae f1;have AJ:=ae<|q1.alloc (.cells (wQ (m.f 5) (.slice Aq ((ec c M (m.f 5)).2).length cq)) 37);have HG1:=ae<|fun q hq=>(g1 q hq).keep fW;have HDA:=ae<|XB.keep fW;have Dt:=ae fW;have aeL:=aq (W5.heap.size≤(W7.alloc (.cells (wQ (m.f 5) (.slice Aq ((ec c M (m.f 5)).2).length cq)) 37)).heap.size) (Nat.le_trans (Nat.le_trans iu.size pz.size) fW.size);have HWR:=ae<|(HMM.keep fW).wr qx;have z5:aF W7 qb 5 (m.f 5):=HQ7.ag rfl;clear f1 q1 g1 fW;go_wp2_with (at_builtin;refine fE _ rfl (.tmp 70) (.tmp 75) 43 37 rfl qA rfl aE Tryz.underlying43 W5.heap.size _ Y.length _ (wQ (m.f 5) (.slice Aq ((ec c M (m.f 5)).2).length cq)).toList rfl AJ ⟨W7.heap.size,0,none⟩ rfl rfl (iH W7 _ _) adR adT adU aeL ?_;intro v8 W8 h8 iz _;have HM8:=ae<|bO.app (v':=undef) (AR 12 0 0 0 0 (m.f 5) 0 false (ec c M (m.f 5)).2,.slice Aq ((ec c M (m.f 5)).2).length cq) h8 kr (fun q hq=>(HG1 q hq).ar iz HWR) (HDA.ar iz HWR);have rA:=ae iz;obtain⟨A8,c8,e8,_,_⟩:=iV h8;subst e8;clear h8 iz)
   exact aex
 ·have b1:decide (c.f 2≤m.f 5)=true:=decide_eq_true aj;have hD:M.D (m.f 5)=none:=by
   cases e:M.D (m.f 5)with
   |none=>rfl
   |some t=>exact absurd (H1.adl.rg _ ((H1.adl.keys _).1 (by rw[e];rfl))).2 hb
  have HT:=aq (dr (bg c 2 hP hk).sp c M (m.f 5) (m.f 6)=M∧gQ (bg c 2 hP hk).sp c M (m.f 5) (m.f 6)= [AR 12 0 0 0 0 (m.f 5) 9 false []]) (by unfold dr gQ;rw[hD];dsimp only;rw[if_neg (fun e=>hb e.2),if_neg (fun e=>hb e.2)];exact⟨rfl,rfl⟩);clear hD hb
  go_quiet (fail)
  go_wp2_with fail;go_ret;have hdr:=(af.ai au W1).drewN nq;have fW:=(af.ai au (W1.drewN nq)).alloc (.cells #[ah 12,ah 0,ah 0,ah 0,ah 0,ah (m.f 5),ah 0,ah 0,ah 9,.bool false,aT] 37);refine⟨_,Dr,rfl,?_,?_,((bc.trans hdr).trans fW).mono fun _ e=>e.elim⟩
  ·rw[HT.2];exact bO.one (w:=W1.drewN nq) (base:=w.heap.size) (AR 12 0 0 0 0 (m.f 5) 9 false []) (v:=aT) rfl (qR.nil _ _) rfl bc.size
  ·rw[HT.1];exact(H1.keep hdr).keep fW
end
def RaQ {K:bj}{c:aQ}(Z:ZN)(o:ir K c 2)(a:RaA)(M':AM K.σ)(T:List PM)(w:World)(e:Ending)(w':World):Prop:=
 ∃u Dr' dv S',e= .returned u∧bO Z w' w.heap.size u T∧adY Z o {a with s:={a.s with dv:=dv}} M' S' Dr' w'∧af (RaW o a) w w'
theorem RaP.q {K:bj}{c:aQ}{Z:ZN}{o:ir K c 2}{a:RaA}{M':AM K.σ}{S:Cj}{T:List PM}{w w':World}{e:Ending}(h:RaP Z o a M' S T w e w'):RaQ Z o a M' T w e w':=by
 obtain⟨u,Dr',h1,h2,h3,h4⟩:=h;exact⟨u,Dr',a.s.dv,S,h1,h2,h3,h4⟩
theorem aeT {c:aQ}{S S':Cj}{wr:Nat→Int}{t:List Int}{code:Int}(h:adX c S wr t=(S',code,0)):wr 4<c.f 2:=by
 unfold adX at h
 split at h
 ·rename_i h1
  injection h with _ h2;injection h2 with _ h3;exact absurd h3 h1
 ·rename_i h1
  exact(aeF (Decidable.not_not.1 h1)).1
theorem aeR {σ:Type}{sp:pQ σ}{c:aQ}{sh:Nat→Int}{M:AM σ}{m:dI}{t:List Int}{code:Int}(h2:(aW c sh M m t).2=(code,0)):
 (lp c (aW c sh M m t).1 (m.f 5)≠lp c M.d (m.f 5)→dS sp c sh M m t=bU sp c {M with d:=(aW c sh M m t).1} (m.f 5) t (m.f 6)∧fO sp c sh M m t=cU sp c {M with d:=(aW c sh M m t).1} (m.f 5) t (m.f 6) ++ [lR m code true])∧
 (¬lp c (aW c sh M m t).1 (m.f 5)≠lp c M.d (m.f 5)→dS sp c sh M m t= {M with d:=(aW c sh M m t).1}∧fO sp c sh M m t= [] ++ [lR m code false]):=by
 have e:(aW c sh M m t).2.2=0:=by rw[h2]
 have e1:(aW c sh M m t).2.1=code:=by rw[h2]
 have n8:¬(aW c sh M m t).2.2=8:=by rw[e];decide
 have n0:¬(aW c sh M m t).2.2≠0:=fun h=>h e
 have n12:¬((aW c sh M m t).2.2=8∨(aW c sh M m t).2.2=12):=by rw[e];decide
 refine⟨fun hv=>?_,fun hv=>?_⟩
 ·unfold dS fO;rw[if_neg n8,if_neg n0,if_pos hv,if_neg n12,if_neg n0,if_pos hv,e1];exact⟨rfl,rfl⟩
 ·unfold dS fO;rw[if_neg n8,if_neg n0,if_neg hv,if_neg n12,if_neg n0,if_neg hv,e1];exact⟨rfl,rfl⟩
theorem aeP {σ:Type}{sp:pQ σ}{c:aQ}{sh:Nat→Int}{M:AM σ}{m:dI}{t:List Int}{code err:Int}(h2:(aW c sh M m t).2=(code,err))(h8:err≠8)(h0:err≠0):
 dS sp c sh M m t= {M with d:=(aW c sh M m t).1}∧fO sp c sh M m t=if err=12 then[]else[] ++ [lR m err false]:=by
 have e:(aW c sh M m t).2.2=err:=by rw[h2]
 have n8:¬(aW c sh M m t).2.2=8:=by rw[e];exact h8
 have n0:(aW c sh M m t).2.2≠0:=by rw[e];exact h0
 unfold dS fO;rw[if_neg n8,if_pos n0];refine⟨rfl,?_⟩
 by_cases JB:err=12
 ·rw[if_pos JB,if_pos (.inr (e.trans JB))]
 ·rw[if_neg JB,if_neg (fun h=>h.elim n8 fun h=>JB (e.symm.trans h)),if_pos n0,e];rfl
theorem afa {c:aQ}{d:bC}{S:Cj}(hP:dp c)(h:aeG c d S){b:Int}(h0:0≤b):lp c d b=if b<c.f 2 then S.lF b.toNat else 0:=by
 unfold lp
 by_cases hb:b<c.f 2
 ·rw[if_pos ⟨h0,hb⟩,if_pos hb,h.bl b.toNat (by have:=aeB hP;omega)]
 ·rw[if_neg (fun e=>hb e.2),if_neg hb]
section
variable {c:aQ}{hP:dp c}{hk:2<3}{Z:ZN}{o:ir (bg c 2 hP hk) c 2}{a:RaA}{M:AM (bg c 2 hP hk).σ}{S:Cj}{Dr:Nat→List Int}{w:World}{m:dI}{t:List Int}{A:Option Addr}{cp:Nat}
theorem aen{P:Prop}(h:P:=by
 have hx8:=(HXd.keep Dt).off rA (fun k hk e=>by have h1:=((HMM.keep Dt).ak e).1;have h2:=rB.out k hk;have h3:=(dX w.heap.size);omega) (fun e=>by have h1:w.heap.size≤a.s.sb:=((HMM.keep Dt).ak e).1;have h2:=acP.out;have h3:=(dX w.heap.size);omega) fun k cs e=>by
  exact ad2
 exact⟨_,_,dv,S',rfl,by rw[HT.2];exact HM8.low (dX w.heap.size),by rw[HT.1];exact hx8,(HPd.aG Dt fun _ e=>e.elim).aG rA fun k hk=>.inr (Nat.le_trans (dX w.heap.size) ((HMM.keep Dt).ak hk).1)⟩):P:=h
theorem aek{P:Prop}(h:P:=by
 rw[show k=qd from e];exact⟨fun hb=>absurd (hb.same HQD).1 aE,fun hb=>absurd (hb.same HQD).1 aE⟩):P:=h
theorem afw (h:adY Z o a M S Dr w)(hd:qR Z w (.slice A t.length cp) t)(hg:WrG fun i=>m.f (i+1))(cV:(bg c 2 hP hk).sp.jf M.s+1<da):
 Calls Tryz.prog 45 #[aO a.x,.agg (bd m (.slice A t.length cp))] w (RaQ Z o a (dS (bg c 2 hP hk).sp c (br c) M m t) (fO (bg c 2 hP hk).sp c (br c) M m t) w):=by
 have HH:=ae h;have Gv:=ae cV;have HG:=ae hg;have HD:=ae hd;have fW:=(af.ai au w).alloc (.cells (bd m (.slice A t.length cp)) 37);have bc:=ae fW;have AJ:=ae<|Box.fresh w 37 (bd m (.slice A t.length cp));have H1:=ae<|h.keep fW;have rB:=aq (∀k,RaW o a k→k<w.heap.size) (fun k hk=>h.RW hk);have acP:=aq (a.s.sb<w.heap.size) (h.rs.ak.lt);obtain⟨hl2,MZ⟩:=afK (t:=t) (wr:=fun i=>m.f (i+1)) hP h.fr.1 h.fr.2 h.of hg;have agm:=(Qy (sh:=br c) (size:=(c.f 3).toNat) (wr:=fun i=>m.f (i+1)) (t:=t) h.fr.1 h.fr.2).1;have afZ:=(Qy (sh:=br c) (size:=(c.f 3).toNat) (wr:=fun i=>m.f (i+1)) (t:=t) h.fr.1 h.fr.2).2;obtain⟨S',code,err,yP⟩:∃S' code err,adX c S (fun i=>m.f (i+1)) t=(S',code,err):=⟨_,_,_,rfl⟩;rw[yP]at hl2 MZ;have Q0:=aq ((aW c (br c) M m t).2=(code,err)) (hl2);have HL3:=aq (aeG c (aW c (br c) M m t).1 S') (MZ);have HN8:=aq (err≠8) (by have h9:(aW c (br c) M m t).2.2≠8:=agm;rw[Q0.out]at h9;exact h9);have HFR:=aq ((aW c (br c) M m t).1.down=false∧(aW c (br c) M m t).1.cA= -1) (⟨afZ.2,afZ.1⟩);have uX:=ae yP;have HV0:=aq (lp c M.d (m.f 5)=if m.f 5<c.f 2 then S.lF (m.f 5).toNat else 0) (afa hP h.of hg.2.2.2.2.2.2);have w7:=aq (lp c (aW c (br c) M m t).1 (m.f 5)=if m.f 5<c.f 2 then S'.lF (m.f 5).toNat else 0) (afa hP HL3 hg.2.2.2.2.2.2);clear h hd hg cV fW hl2 MZ agm afZ yP
 go_enter Tryz.func45,Tryz.ntmps45
 go_upto_region 1 with fail;change Code.wp _ _ _ _ (w.alloc (.cells (bd m (.slice A t.length cp)) 37));generalize w.alloc (.cells (bd m (.slice A t.length cp)) 37)=W1 at *;obtain⟨qb,qY⟩:∃qb,qb=w.heap.size:=⟨_,rfl⟩;rw[←qY]at AJ ⊢;have Xj:=aq (¬RaW o a qb) (fun e=>by have:=rB.out qb e;omega);have HXN:=aq (¬RsW a.s a.x∧¬RsW a.s qb) (⟨fun e=>by rcases HH.rs.Ns e HH.ak with h3|h3<;>exact absurd h3 aE,fun e=>Xj (.inr (.inl e))⟩);clear qY;have q5:aF W1 qb 5 (m.f 5):=AJ.ag rfl;have x2:aF W1 a.x 2 (c.f 2):=H1.cf aE;go_upto_region 2 with fail
 go_quiet (fail)
 have UN:af au W1 (W1.drewN nq):=(af.ai au W1).drewN nq;have H2:=ae<|H1.keep UN;have qQ:=ae<|UN.ak AJ id;have bu:=ae<|bc.trans UN;clear UN q5 x2 H1 AJ bc;generalize W1.drewN nq=W2 at *;go_upto_if 17 with fail
 go_cut [5] (fun v wx=>v=ah ((lp c M.d (m.f 5):Nat):Int)∧af au W2 wx)
 case first=>
  by_cases hb:m.f 5<c.f 2
  ·have b1:decide (m.f 5<c.f 2)=true:=decide_eq_true hb;have HV:=ae<|HV0.trans (if_pos hb);obtain⟨adn,JZ⟩:∃adn:Nat,(m.f 5).toNat=adn:=⟨_,rfl⟩;have M4:m.f 5=(adn:Int):=by have h9:0≤m.f 5:=HG.2.2.2.2.2.2;omega
   have Fa:adn<nB c:=by have h2:=aeB H2.adl.right;omega
   have x17:aM W2 a.x 17 (aO a.s.sb):=H2.ak.ag rfl;have adp:aM W2 a.s.sb 4 (bp a.s.vb (nB c) a.s.vc):=H2.rs.ak.ag rfl;have q5:aF W2 qb 5 ((adn:Nat):Int):=by rw[←M4];exact qQ.ag rfl
   have d4:=(H2.rs.acZ Fa).1;have tZ:(adn:Int)<(nB c:Nat):=aj;rw[JZ]at HV;clear JZ M4 Fa b1;go_upto_region 3 with fail;clear hb
   go_quiet (fail)
   go_wp2_with fail
   go_meet
   case rel=>exact⟨by rw[HV.out],(af.ai au W2).drewN nq⟩
  ·have HV:=ae<|HV0.trans (if_neg hb);go_wp2_with fail
   go_meet
   case rel=>exact⟨by rw[HV.out];rfl,af.ai _ _⟩
 case rest=>
  obtain⟨rfl,hcut⟩:=hcut;have H3:=ae<|H2.keep hcut;have Gp:=ae<|hcut.ak qQ id;have bI:=ae<|bu.trans hcut;clear hcut H2 qQ bu;obtain⟨W3,hW3⟩:∃W3,W3=wc:=⟨_,rfl⟩;subst hW3;go_upto_region 4 with fail;have hdw:=HD.keep bI.drew;have HD3:=ae hdw;have RZ:=afv (wr:=fun i=>m.f (i+1)) (t:=t) (H3.rs.keep ((af.ai au W3).drew)) hP HG hdw.1 (fun h0 k hk e=>by
   rcases hdw.2 h0 k hk with h1|⟨⟨cs,h1⟩,_⟩
   ·have:=H3.lo k (.inl e);omega
   ·rcases(H3.rs.keep ((af.ai au W3).drew)).Ns e h1 with h3|h3<;>exact absurd h3 aE) (fun b hb=>by have h9:=yG (c.f 3).toNat (M.d.sec (1+b));rw[H3.of.bl b hb]at h9;exact h9)
  rw[uX.out]at RZ;have HWR:=aq (Calls Tryz.prog 75 #[aO a.s.sb,(.agg #[ah (m.f 1),ah (m.f 2),ah (m.f 3),ah (m.f 4),ah (m.f 5),(.slice A t.length cp)])] W3.drew (agD c a.s S' code err W3.drew)) (RZ);have k17:aM W3.drew a.x 17 (aO a.s.sb):=H3.ak.ag rfl;have k1:aF W3.drew qb 1 (m.f 1):=Gp.ag rfl;have k2:aF W3.drew qb 2 (m.f 2):=Gp.ag rfl;have k3:aF W3.drew qb 3 (m.f 3):=Gp.ag rfl;have k4:aF W3.drew qb 4 (m.f 4):=Gp.ag rfl;have k5:aF W3.drew qb 5 (m.f 5):=Gp.ag rfl;have k10:aM W3.drew qb 10 (.slice A t.length cp):=Gp.ag rfl;clear hdw RZ;refine gg (fun w':World=>aM w' a.x 17 (aO a.s.sb)∧aF w' qb 1 (m.f 1)∧aF w' qb 2 (m.f 2)∧aF w' qb 3 (m.f 3)∧aF w' qb 4 (m.f 4)∧aF w' qb 5 (m.f 5)∧aM w' qb 10 (.slice A t.length cp)) 22 ?_ ?_
  ·first|exact⟨k17,k1,k2,k3,k4,k5,k10⟩|exact aC|exact A0
  intro aC;refine bE [0,1,2,3,4,5,6,7,8,9,10,11,12,13,14,15] ?_;refine cX 16 fun Kc hK=>?_
  go_simp;refine dy hK ?_ fun aC=>?_
  ·first|exact⟨k17,k1,k2,k3,k4,k5,k10⟩|exact aC|exact A0
  clear hK;refine cX 17 fun Kc hK=>?_
  go_simp;refine HWR.mono ?_;rintro e W4 ⟨rfl,dv,QM,ey,hk4⟩;have jh:=ae QM;have cr:=ae ey;have HK4:=ae hk4;have A0:((fun w':World=>aM w' a.x 17 (aO a.s.sb)∧aF w' qb 1 (m.f 1)∧aF w' qb 2 (m.f 2)∧aF w' qb 3 (m.f 3)∧aF w' qb 4 (m.f 4)∧aF w' qb 5 (m.f 5)∧aM w' qb 10 (.slice A t.length cp)):World→Prop) W4:=⟨ey.cell aC.1 HXN.1,ey.cell aC.2.1 HXN.2,ey.cell aC.2.2.1 HXN.2,ey.cell aC.2.2.2.1 HXN.2,ey.cell aC.2.2.2.2.1 HXN.2,ey.cell aC.2.2.2.2.2.1 HXN.2,ey.cell aC.2.2.2.2.2.2 HXN.2⟩;clear QM ey hk4;refine dy hK ?_ fun aC=>?_
  ·first|exact⟨k17,k1,k2,k3,k4,k5,k10⟩|exact aC|exact A0
  clear hK;refine bE [18,19,20,21] ?_;refine dE ?_;clear aC A0 k17 k1 k2 k3 k4 k5 k10 HWR;have HX4:=ae<|(H3.keep ((af.ai au W3).drew)).store jh cr HK4 HL3 HFR;have xF:=ae<|cr.ak (show Box W3.drew qb 37 (bd m (.slice A t.length cp))from Gp) HXN.2;have hor:af (RaW o a) W3.drew W4:=cr.mono fun k e=>.inl (.inr (.inl e))
  have HP4:=ae<|((bI.drew).mono (S':=RaW o a) fun _ e=>e.elim).trans hor;have Kh:=ae<|HD3.ar hor (H3.keep ((af.ai au W3).drew)).wr;clear hor jh cr HK4 H3 Gp bI HD3
  by_cases JB:err=12
  ·have HT:=aq (dS (bg c 2 hP hk).sp c (br c) M m t=({M with d:=(aW c (br c) M m t).1}:AM (bg c 2 hP hk).σ)∧fO (bg c 2 hP hk).sp c (br c) M m t= []) (by have h9:=aeP (sp:=(bg c 2 hP hk).sp) Q0 HN8 (by rw[JB];decide);rw[if_pos JB]at h9;exact h9);subst JB;go_wp2_with fail;go_ret;exact⟨_,_,dv,S',rfl,by rw[HT.2];exact bO.nil _ _ _,by rw[HT.1];exact HX4,HP4⟩
  ·have b12:(err==12)=false:=by simpa using JB
   have z1:aF W4 qb 1 (m.f 1):=xF.ag rfl;have z2:aF W4 qb 2 (m.f 2):=xF.ag rfl;have z3:aF W4 qb 3 (m.f 3):=xF.ag rfl;have z4:aF W4 qb 4 (m.f 4):=xF.ag rfl;have z5:aF W4 qb 5 (m.f 5):=xF.ag rfl;have H12:=ae JB;clear JB;go_upto_region 8 with(refine iP #[ah 13,ah (m.f 1),ah (m.f 2),ah (m.f 3),ah (m.f 4),ah (m.f 5),ah 0,ah 0,ah code,.bool false,aT] (Box.fresh W4 37 ace) aU ?_);have hj:af au W4 ((W4.alloc (.cells ace 37)).setRow W4.heap.size #[ah 13,ah (m.f 1),ah (m.f 2),ah (m.f 3),ah (m.f 4),ah (m.f 5),ah 0,ah 0,ah code,.bool false,aT]):=((af.ai au W4).alloc _).aw (.inr (dX _)) _;have HQD:=ae<|(Box.fresh W4 37 ace).aw #[ah 13,ah (m.f 1),ah (m.f 2),ah (m.f 3),ah (m.f 4),ah (m.f 5),ah 0,ah 0,ah code,.bool false,aT];have HXd:=ae<|HX4.keep hj;have Vn:=ae<|hj.ak xF id;have HPd:=ae<|HP4.aG hj fun _ e=>e.elim;have XD:=ae<|Kh.keep hj;have HQL:=aq (w.heap.size≤W4.heap.size) (HP4.size);have ahl:=aq (qb≠W4.heap.size) (Nat.ne_of_lt xF.lt);change Code.wp _ _ _ _ ((W4.alloc (.cells ace 37)).setRow W4.heap.size #[ah 13,ah (m.f 1),ah (m.f 2),ah (m.f 3),ah (m.f 4),ah (m.f 5),ah 0,ah 0,ah code,.bool false,aT]);clear hj z1 z2 z3 z4 z5 HX4 xF HP4 Kh;generalize(W4.alloc (.cells ace 37)).setRow W4.heap.size #[ah 13,ah (m.f 1),ah (m.f 2),ah (m.f 3),ah (m.f 4),ah (m.f 5),ah 0,ah 0,ah code,.bool false,aT]=W5 at *;generalize W4.heap.size=qd at *;have Xr:=aq (qb≠qd) (fun e=>ahl e);have HQX:=aq (¬RaW o a qd) (fun e=>by have:=rB.out qd e;have:=HQL.out;omega)
   try simp only[Act.put]
   by_cases h0:err=0
   ·subst h0;have U5:m.f 5<c.f 2:=aeT uX;obtain⟨adn,JZ⟩:∃adn:Nat,(m.f 5).toNat=adn:=⟨_,rfl⟩;have M4:m.f 5=(adn:Int):=by have h9:0≤m.f 5:=HG.2.2.2.2.2.2;omega
    have Fa:adn<nB c:=by have h2:=aeB hP;omega
    have hv1:=w7.trans (if_pos U5);rw[JZ]at hv1;have ahj:=ae hv1;have x17:aM W5 a.x 17 (aO a.s.sb):=HXd.ak.ag rfl;have adp:aM W5 a.s.sb 4 (bp a.s.vb (nB c) a.s.vc):=HXd.rs.ak.ag rfl;have q5:aF W5 qb 5 ((adn:Nat):Int):=by rw[←M4];exact Vn.ag rfl
    have d4:aF W5 a.s.vb adn ((S'.lF adn:Nat):Int):=(HXd.rs.acZ Fa).1;have tZ:(adn:Int)<(nB c:Nat):=aj;clear U5 JZ M4 Fa hv1 H12;obtain⟨v1,hv1⟩:∃v1,S'.lF adn=v1:=⟨_,rfl⟩;obtain⟨v0,Dc⟩:∃v0,lp c M.d (m.f 5)=v0:=⟨_,rfl⟩;have JD:=aq (lp c (aW c (br c) M m t).1 (m.f 5)=v1∧lp c M.d (m.f 5)=v0) (⟨ahj.trans hv1,Dc⟩);rw[hv1]at d4;rw[Dc];clear hv1 Dc;go_upto_region 11 with fail
    go_quiet (fail)
    have hdr:=(af.ai au W5).drewN nq;have hxd:=HXd.keep hdr;have Wb:=hdr.ak HQD id;have hpd:=HPd.aG hdr fun _ e=>e.elim
    have hq5:=hdr.ak Vn id;have hd5:=XD.keep hdr;clear hdr x17 adp q5 d4 tZ HXd HQD HPd Vn XD;generalize W5.drewN nq=W6 at *;have HXd:=ae hxd;have HQD:=ae Wb;have HPd:=ae hpd;have Vn:=ae hq5;have XD:=ae hd5;clear hxd Wb hpd hq5 hd5
    by_cases hve:v1=v0
    ·have HT:=ae<|(aeR (sp:=(bg c 2 hP hk).sp) Q0).2 (by rw[JD.1,JD.2];exact fun h=>h hve);subst hve;go_upto_region 14 with fail;have AF:=aq (([]:List PM).length≤1) (fH _);have HMM:=ae<|bO.nil Z W6 w.heap.size;have qx:=aq (Z.B≤w.heap.size) (Nat.le_trans (HH.lo a.x (.inr rfl)) (Nat.le_of_lt HH.ak.lt));have HBW:=aq (w.heap.size≤W6.heap.size) (HPd.size);obtain⟨Y,f1,q1,g1⟩:=HMM.out;have HYL:=aq (Y.length≤1) adS;have fW:=(af.ai au W6).alloc (.cells #[ah 13,ah (m.f 1),ah (m.f 2),ah (m.f 3),ah (m.f 4),ah (m.f 5),ah 0,ah 0,ah code,.bool false,aT] 37);have kr:=ae f1;have AJ:=ae<|q1.alloc (.cells #[ah 13,ah (m.f 1),ah (m.f 2),ah (m.f 3),ah (m.f 4),ah (m.f 5),ah 0,ah 0,ah code,.bool false,aT] 37);have HG1:=ae<|fun q hq=>(g1 q hq).keep fW;have Dt:=ae fW;have aeL:=aq (w.heap.size≤(W6.alloc (.cells #[ah 13,ah (m.f 1),ah (m.f 2),ah (m.f 3),ah (m.f 4),ah (m.f 5),ah 0,ah 0,ah code,.bool false,aT] 37)).heap.size) (Nat.le_trans HBW fW.size);have afj:=ae<|(HMM.keep fW).wr qx;clear f1 q1 g1 fW;go_wp2_with (first|(refine iy #[ah 13,ah (m.f 1),ah (m.f 2),ah (m.f 3),ah (m.f 4),ah (m.f 5),ah 0,ah 0,ah code,.bool false,aT] HQD Tryz.underlying37 ?_)|(at_builtin;refine fE _ rfl (.tmp 93) (.tmp 95) 43 37 rfl qA rfl aE Tryz.underlying43 w.heap.size _ Y.length _ (#[ah 13,ah (m.f 1),ah (m.f 2),ah (m.f 3),ah (m.f 4),ah (m.f 5),ah 0,ah 0,ah code,.bool false,aT]:Array Value).toList rfl AJ ⟨W6.heap.size,0,none⟩ rfl rfl (iH W6 _ _) aU adT adU aeL ?_;intro v8 W8 h8 iz _;have HM8:=ae<|bO.app (v':=undef) (lR m code false,aT) h8 kr (fun q hq=>(HG1 q hq).ar iz afj) (qR.nil _ _);have rA:=ae iz;obtain⟨A8,c8,e8,_,_⟩:=iV h8;subst e8;clear h8 iz));go_ret;exact aen
    ·have HT:=ae<|(aeR (sp:=(bg c 2 hP hk).sp) Q0).1 (by rw[JD.1,JD.2];exact hve);have x9:aM W6 qd 9 (.bool false):=HQD.ag rfl;have g9:W6.frozen? ⟨qd,9,none⟩=false:=HQD.free _;go_upto_region 13 with fail;have hj:af (az qd) W6 (W6.setCell ⟨qd,9,none⟩ (.bool true)):=(af.ai (az qd) W6).setCell (p:=⟨qd,9,none⟩) (.inl (show az qd qd from rfl)) _;have Wb:Box (W6.setCell ⟨qd,9,none⟩ (.bool true)) qd 37 #[ah 13,ah (m.f 1),ah (m.f 2),ah (m.f 3),ah (m.f 4),ah (m.f 5),ah 0,ah 0,ah code,.bool true,aT]:=HQD.store 9 _;have hxd:=HXd.off hj (fun k hk e=>HQX ((show k=qd from e)▸hk)) (fun e=>by have h1:=acP.out;have h2:=HQL.out;have h3:a.s.sb=qd:=e;omega) fun k cs e=>by
      exact aek
     have hpd:=HPd.aG hj fun k e=>.inr (by rw[show k=qd from e];exact HQL)
     have hq5:=hj.ak Vn fun e=>Xr (show qb=qd from e)
     have hd5:=XD.ar hj fun k _ e=>by rw[show k=qd from e];exact⟨Nat.le_trans (Nat.le_trans (HH.lo a.x (.inr rfl)) (Nat.le_of_lt HH.ak.lt)) HQL,.inr fun cs hb=>absurd (hb.same HQD).1 aE⟩
     change Code.wp _ _ _ _ (W6.setCell ⟨qd,9,none⟩ (.bool true));clear x9 g9 hj HQD HXd HPd Vn XD hve;generalize W6.setCell ⟨qd,9,none⟩ (.bool true)=W7 at *;have ahm:=ae Wb;have HX7:=ae hxd;have St:=ae hpd;have HQ7:=ae hq5;have XB:=ae hd5;clear Wb hxd hpd hq5 hd5;have HUP:=aq (Calls Tryz.prog 74 #[aO a.x,.agg #[ah (m.f 5),(.slice A t.length cp)],ah (m.f 6)] W7 (RaP Z o {a with s:={a.s with dv:=dv}} (bU (bg c 2 hP hk).sp c ({M with d:=(aW c (br c) M m t).1}:AM (bg c 2 hP hk).σ) (m.f 5) t (m.f 6)) S' (cU (bg c 2 hP hk).sp c ({M with d:=(aW c (br c) M m t).1}:AM (bg c 2 hP hk).σ) (m.f 5) t (m.f 6)) W7)) (afn HX7 XB (by have:=Gv.out;show(bg c 2 hP hk).sp.jf M.s<da;omega));have AF:=ae<|r7 (sp:=(bg c 2 hP hk).sp) (c:=c) (M:=({M with d:=(aW c (br c) M m t).1}:AM (bg c 2 hP hk).σ)) (b:=m.f 5) (t:=t) (lev:=m.f 6);have qx:=aq (Z.B≤W7.heap.size) (Nat.le_trans (HX7.lo a.x (.inr rfl)) (Nat.le_of_lt HX7.ak.lt));have z5:aF W7 qb 5 (m.f 5):=HQ7.ag rfl;have z6:aF W7 qb 6 (m.f 6):=HQ7.ag rfl;have z10:aM W7 qb 10 (.slice A t.length cp):=HQ7.ag rfl;go_upto_region 14 with(first|(go_at_call 74;refine HUP.mono ?_;rintro e W8 ⟨u,Dr6,rfl,hm6,h6,fI⟩;have HX8:=ae h6;have rA:=ae fI;have HM8:=ae hm6;obtain⟨X,e1,r1,d1⟩:=hm6;have uJ:=ae e1;have cy:=ae r1;have Ki:=ae d1;have Ve:=aq (X.length≤1) aed;clear h6 fI e1 r1 d1)|(at_builtin;refine aei _ rfl (.tmp 82) (.tmp 91) 43 37 rfl qA rfl aE Tryz.underlying43 W7.heap.size _ 0 _ rfl (World.ownsRow_nil _ _ _ _) W7.heap.size _ X.length _ rfl cy (aeS Ki) fa eY rA.size ?_;intro v9 W9 h7 l4 _;have l5:=ae<|l4.mono (S':=au) fun k e=>(bo e).elim;have HM9:=ae<|bO.cat (X:=[]) (L:=[]) h7 rfl uJ (fun q hq=>by cases hq) (fun q hq=>(Ki q hq).keep l5);obtain⟨A7,c7,e7,_,_⟩:=iV h7;subst e7;clear h7 l4));clear z5 z6 z10;have HXd:=ae<|HX8.keep l5;have HQD:=ae<|l5.ak (rA.ak ahm HQX) id;have HPd:=ae<|(St.trans rA).aG l5 fun _ e=>e.elim;have HBW:=aq (W7.heap.size≤W9.heap.size) (Nat.le_trans rA.size l5.size);have NY:=aq (w.heap.size≤W7.heap.size) (St.size);have hm9:=HM9.out;rw[List.nil_append,Nat.zero_add]at hm9;have HMM:=ae hm9;clear hm9;obtain⟨Y,f1,q1,g1⟩:=HMM.out;have HYL:=aq (Y.length≤1) adS;have fW:=(af.ai au W9).alloc (.cells #[ah 13,ah (m.f 1),ah (m.f 2),ah (m.f 3),ah (m.f 4),ah (m.f 5),ah 0,ah 0,ah code,.bool true,aT] 37);have kr:=ae f1;have AJ:=ae<|q1.alloc (.cells #[ah 13,ah (m.f 1),ah (m.f 2),ah (m.f 3),ah (m.f 4),ah (m.f 5),ah 0,ah 0,ah code,.bool true,aT] 37);have HG1:=ae<|fun q hq=>(g1 q hq).keep fW;have Dt:=ae fW;have aeL:=aq (W7.heap.size≤(W9.alloc (.cells #[ah 13,ah (m.f 1),ah (m.f 2),ah (m.f 3),ah (m.f 4),ah (m.f 5),ah 0,ah 0,ah code,.bool true,aT] 37)).heap.size) (Nat.le_trans HBW fW.size);have afj:=ae<|(HMM.keep fW).wr qx;clear f1 q1 g1 fW;go_wp2_with (first|(refine iy #[ah 13,ah (m.f 1),ah (m.f 2),ah (m.f 3),ah (m.f 4),ah (m.f 5),ah 0,ah 0,ah code,.bool true,aT] HQD Tryz.underlying37 ?_)|(at_builtin;refine fE _ rfl (.tmp 93) (.tmp 95) 43 37 rfl qA rfl aE Tryz.underlying43 W7.heap.size _ Y.length _ (#[ah 13,ah (m.f 1),ah (m.f 2),ah (m.f 3),ah (m.f 4),ah (m.f 5),ah 0,ah 0,ah code,.bool true,aT]:Array Value).toList rfl AJ ⟨W9.heap.size,0,none⟩ rfl rfl (iH W9 _ _) aU adT adU aeL ?_;intro v8 W8 h8 iz _;have HM8:=ae<|bO.app (v':=undef) (lR m code true,aT) h8 kr (fun q hq=>(HG1 q hq).ar iz afj) (qR.nil _ _);have rA:=ae iz;obtain⟨A8,c8,e8,_,_⟩:=iV h8;subst e8;clear h8 iz))
     go_ret;have hx8:=(HXd.keep Dt).off rA (fun k hk e=>by have h1:=((HMM.keep Dt).ak e).1;have h2:=rB.out k hk;have h3:=NY.out;omega) (fun e=>by have h1:W7.heap.size≤a.s.sb:=((HMM.keep Dt).ak e).1;have h2:=acP.out;have h3:=NY.out;omega) fun k cs e=>by
      exact ad2
     exact⟨_,_,dv,S',rfl,by rw[HT.2];exact HM8.low NY,by rw[HT.1];exact hx8,(HPd.aG Dt fun _ e=>e.elim).aG rA fun k hk=>.inr (Nat.le_trans NY ((HMM.keep Dt).ak hk).1)⟩
   ·have HT:=aq (dS (bg c 2 hP hk).sp c (br c) M m t=({M with d:=(aW c (br c) M m t).1}:AM (bg c 2 hP hk).σ)∧fO (bg c 2 hP hk).sp c (br c) M m t= [] ++ [lR m err false]) (by have h9:=aeP (sp:=(bg c 2 hP hk).sp) Q0 HN8 h0;rw[if_neg H12.out]at h9;exact h9);have b0:(err != 0)=true:=by simpa using h0
    have x8:aF W5 qd 8 code:=HQD.ag rfl;have g8:W5.frozen? ⟨qd,8,none⟩=false:=HQD.free _;clear h0;go_upto_region 14 with fail;have hj:af (az qd) W5 (W5.setCell ⟨qd,8,none⟩ (ah err)):=(af.ai (az qd) W5).setCell (p:=⟨qd,8,none⟩) (.inl (show az qd qd from rfl)) _;have Wb:Box (W5.setCell ⟨qd,8,none⟩ (ah err)) qd 37 #[ah 13,ah (m.f 1),ah (m.f 2),ah (m.f 3),ah (m.f 4),ah (m.f 5),ah 0,ah 0,ah err,.bool false,aT]:=HQD.store 8 _;have hxd:=HXd.off hj (fun k hk e=>HQX ((show k=qd from e)▸hk)) (fun e=>by have h1:=acP.out;have h2:=HQL.out;have h3:a.s.sb=qd:=e;omega) fun k cs e=>by
     exact aek
    have hpd:=HPd.aG hj fun k e=>.inr (by rw[show k=qd from e];exact HQL)
    change Code.wp _ _ _ _ (W5.setCell ⟨qd,8,none⟩ (ah err));clear x8 g8 hj HQD HXd HPd Vn XD;generalize W5.setCell ⟨qd,8,none⟩ (ah err)=W6 at *;have HQD:=ae Wb;have HXd:=ae hxd;have HPd:=ae hpd;clear Wb hxd hpd;have AF:=aq (([]:List PM).length≤1) (fH _);have HMM:=ae<|bO.nil Z W6 w.heap.size;have qx:=aq (Z.B≤w.heap.size) (Nat.le_trans (HH.lo a.x (.inr rfl)) (Nat.le_of_lt HH.ak.lt));have HBW:=aq (w.heap.size≤W6.heap.size) (HPd.size);obtain⟨Y,f1,q1,g1⟩:=HMM.out;have HYL:=aq (Y.length≤1) adS;have fW:=(af.ai au W6).alloc (.cells #[ah 13,ah (m.f 1),ah (m.f 2),ah (m.f 3),ah (m.f 4),ah (m.f 5),ah 0,ah 0,ah err,.bool false,aT] 37);have kr:=ae f1;have AJ:=ae<|q1.alloc (.cells #[ah 13,ah (m.f 1),ah (m.f 2),ah (m.f 3),ah (m.f 4),ah (m.f 5),ah 0,ah 0,ah err,.bool false,aT] 37);have HG1:=ae<|fun q hq=>(g1 q hq).keep fW;have Dt:=ae fW;have aeL:=aq (w.heap.size≤(W6.alloc (.cells #[ah 13,ah (m.f 1),ah (m.f 2),ah (m.f 3),ah (m.f 4),ah (m.f 5),ah 0,ah 0,ah err,.bool false,aT] 37)).heap.size) (Nat.le_trans HBW fW.size);have afj:=ae<|(HMM.keep fW).wr qx;clear f1 q1 g1 fW;go_wp2_with (first|(refine iy #[ah 13,ah (m.f 1),ah (m.f 2),ah (m.f 3),ah (m.f 4),ah (m.f 5),ah 0,ah 0,ah err,.bool false,aT] HQD Tryz.underlying37 ?_)|(at_builtin;refine fE _ rfl (.tmp 93) (.tmp 95) 43 37 rfl qA rfl aE Tryz.underlying43 w.heap.size _ Y.length _ (#[ah 13,ah (m.f 1),ah (m.f 2),ah (m.f 3),ah (m.f 4),ah (m.f 5),ah 0,ah 0,ah err,.bool false,aT]:Array Value).toList rfl AJ ⟨W6.heap.size,0,none⟩ rfl rfl (iH W6 _ _) aU adT adU aeL ?_;intro v8 W8 h8 iz _;have HM8:=ae<|bO.app (v':=undef) (lR m err false,aT) h8 kr (fun q hq=>(HG1 q hq).ar iz afj) (qR.nil _ _);have rA:=ae iz;obtain⟨A8,c8,e8,_,_⟩:=iV h8;subst e8;clear h8 iz));go_ret;exact aen
end
end Go.Proofs.YtpcfhbeakecihaaGreat

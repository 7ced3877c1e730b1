/- Lemmas. -/
import Derived.Test.YtchofaecncibjaaGreatM14
import Derived.Test.YtchofaecncibjaaGreatM39
set_option linter.all false
set_option maxHeartbeats 20000000
set_option maxRecDepth 100000
namespace Go.Proofs.YtchofaecncibjaaGreat
open Go.ChangeShapes Go.RowKit Go.WideShapes
section
variable {Z Z':ZN}{w w' w1:World}{K:aZ}{c:aM}{a a':cH K}{M M1 M1' M2 M2':CM K.σ}{o o':cJ K c 0}{r r':kK}{i':JO}{Dr uO:Nat→List Int}
theorem cX.UW {v:Value}{l:List Int}(h:cX Z w v l)(hB:Z'.B=Z.B)(hN:∀k,Z'.N k→w.heap.size≤k):cX Z' w v l:=⟨h.1,fun h0 k hk=>by
 rcases h.2 h0 k hk with e|⟨⟨cs,hb⟩,_⟩
 ·exact .inl (by rw[hB];exact e)
 ·exact .inr ⟨⟨cs,hb⟩,fun e=>by have:=hN k e;have:=hb.lt;omega⟩⟩
theorem dy.UW {base:Nat}{v:Value}{L:List nP}(h:dy Z w base v L)(hB:Z'.B=Z.B)(hN:∀k,Z'.N k→w.heap.size≤k):dy Z' w base v L:=by
 obtain⟨X,h1,h2,h3⟩:=h;exact⟨X,h1,h2,fun p hp=>(h3 p hp).UW hB hN⟩
theorem bm.UW (h:bm Z K c a M w)(ho:ag az w w')(hB:Z'.B=Z.B)(hN:∀k,Z'.N k→w.heap.size≤k)(hl:∀k,Z'.N k→k<w'.heap.size):bm Z' K c a M w':=by
 have h':=h.keep ho;exact {
  aq:=h'.aq,slots:=h'.slots
  fw:=fun j hj=>((h.fw j hj).UW hB hN).keep ho
  j0:=h'.j0,dd:=h'.dd
  dn:=fun b l v hb k hk e=>by have:=hN k e;have:=h.j0.Zr hb k hk;omega
  AV:=h'.AV,bw:=h'.bw
  en:=by rw[hB];exact(h.en.UW hB hN).keep ho
  fs:=h'.fs
  lo:=fun k hk=>by rw[hB];exact h.lo k hk
  AX:=hl,fu:=h.fu}
theorem iq (hT:K.Typ){B:Nat}{i:K.ι}{l cb mb u g eb sb:Nat}{hv pz:Value}(hB:B≤w.heap.size)
 (h1:Box w' l 80 (br c pz cb (aO u) (aU sb (cN c) (cN c)) 0 false aJ)) (h2:Box w' sb 92 (mC (cN c) fun _=>EE)) (h3:cP K i w' cb mb c hv 1 K.s0 (fun _=>none))
 (h4:Box w' u 135 (ft g (lP (c.f 9) (c.f 10) (c.f 11) 3) (fun _=>0) (fun _=>0))) (h5:jV w' g eb 1 (fun _=>[]))
 (h6:∃A k cp,pz= .slice A k cp∧aW w' A k cp c.h∧(0<c.h.length→∀j,aK (.slice A k cp) j→(∀y,vV K i cb mb c hv (fun _=>none) y→y<j)∧j<sb)) (h7:∀k,K.F i k→w.heap.size≤k∧k<sb)
 (h8:w.heap.size≤cb∧cb<sb∧w.heap.size≤mb∧mb<sb∧sb<l∧l<u∧l<g∧l<eb):
 bm ⟨B,fun _=>False⟩ K c ⟨i,l,cb,mb,u,g,eb,sb,hv,pz,aJ,fun _=>aJ,fun _=>none⟩ (m0 K) w':=by
 have hF:∀k,(K.F i k∨(0<c.h.length∧aK hv k))→k<sb:=fun k hk=>by
  rcases hk with hk|⟨h0,hk⟩
  ·exact(h7 k hk).2
  ·obtain⟨A,n,cp,rfl,hh,hx⟩:=h6;obtain⟨g1,o1,e,_⟩:=hh.at_ 0 h0;subst e;obtain⟨q1,q2⟩:=hx h0 g1 (aG.2 rfl);have:=q1 k (.inr (.inr (.inr (.inr ⟨h0,hk⟩))));omega
 have hU:kF w' u g eb (dF c) u0:=by
  refine⟨fun _=>0,fun _=>0,⟨h4,?_,fun e=>?_,fun e=>?_⟩,⟨fun i hi=>rfl,rfl,fun l _ _=>rfl⟩,Sy⟩
  ·have e:(fun i:Nat=>if i=0 then u0.L else([]:List Int))=fun _=>[]:=funext fun i=>by split<;>rfl
   rw[e];exact h5
  ·obtain⟨cs,hb⟩:=h5.boxes.1;rw[←e]at hb;exact absurd (hb.same h4).1 aD
  ·obtain⟨cs,hb⟩:=h5.boxes.2;rw[←e]at hb;exact absurd (hb.same h4).1 aD
 exact {
  aq:=h1,slots:=h2
  fw:=fun j hj=>cX.nil _ _
  j0:=h3,dd:=fun b=>rfl,dn:=fun b l v hb=>by cases hb
  AV:=hU
  bw:=by
   obtain⟨A,n,cp,e,hh,hx⟩:=h6;refine⟨A,n,cp,e,hh,fun h0 k hk hW=>?_⟩;rw[show(pz:Value)=_ from e]at hk;obtain⟨q1,q2⟩:=hx h0 k hk;rcases hW with hW|hW|hW|hW|hW|hW|hW|hW|hW
   ·have:=q1 k (.inl hW);omega
   ·have:=q1 k (.inr (.inl hW));omega
   ·have:=q1 k (.inr (.inr (.inl hW)));omega
   ·have e:k=u:=hW;omega
   ·have e:k=g:=hW;omega
   ·have e:k=eb:=hW;omega
   ·have e:k=l:=hW;omega
   ·have e:k=sb:=hW;omega
   ·exact(a7 hW).elim
  en:=dy.nil _ _ _
  fs:=fun k hk=>by
   have:=hF k hk;have h8:=h8;exact⟨show k≠l by omega,show k≠sb by omega,show k≠u by omega,show k≠g by omega,show k≠eb by omega,fun e=>(a7 e).elim⟩
  lo:=fun k hW=>by
   show B≤k
   rcases hW with hW|hW|hW|hW|hW|hW|hW|hW|hW
   ·have:=(h7 k hW).1;omega
   ·have e:k=cb:=hW;omega
   ·have e:k=mb:=hW;omega
   ·have e:k=u:=hW;omega
   ·have e:k=g:=hW;omega
   ·have e:k=eb:=hW;omega
   ·have e:k=l:=hW;omega
   ·have e:k=sb:=hW;omega
   ·exact(a7 hW).elim
  AX:=fun k h=>h.elim
  fu:=hT}
def DS (K:aZ)(c:aM)(B:Nat)(w:World)(e:Ending)(w':World):Prop:=
 ∃(o:cJ K c 0) (r:kK),e= .returned (aO r.x)∧bA ⟨B,ke o r.r⟩ o r (m0 K) (fun _=>[]) w'∧(∀k,mL o r k→w.heap.size≤k)∧ag az w w'
theorem Uf (c:aM)(hv:Value)(cb cb':Nat)(u:Value)(sl:Value)(ops:Int)(up:Bool)(en:Value):(br c hv cb u sl ops up en).setIfInBounds 17 (aO cb')=br c hv cb' u sl ops up en:=by
 unfold br ak;rfl
theorem bA.gone (h:bA Z o r M Dr w)(hn:ta o' i' K.s0 uO w1)(ho:ag az w w1)(hf:∀k,ke o' i' k→w.heap.size≤k)(hg:nU K K.s0):
 bA ⟨Z.B,ke o' i'⟩ o' {r with r:=i'} (zP K.s0 M) uO ((w1.setCell ⟨r.x,17,none⟩ (aO i'.cb)).setCell ⟨r.x,21,none⟩ (.bool false)):=by
 have hx:=h.kB (k:=r.x) (.inr (.inl rfl));have j:ag (ar r.x) w1 ((w1.setCell ⟨r.x,17,none⟩ (aO i'.cb)).setCell ⟨r.x,21,none⟩ (.bool false)):=((ag.aj (ar r.x) w1).setCell (p:=⟨r.x,17,none⟩) (.inl (show ar r.x r.x from rfl)) _).setCell (p:=⟨r.x,21,none⟩) (.inl (show ar r.x r.x from rfl)) _;have fB:=ho.aq h.aq id;have hJ:Wr ⟨Z.B,ke o' i'⟩ (ar r.x) w1:=fun k _ e=>by
  rw[show k=r.x from e];exact⟨h.lo _ (.inr (.inl rfl)),.inr fun cs hb=>(fB.off hb aD) rfl⟩
 have hD:∀{v l},cX Z w v l→cX ⟨Z.B,ke o' i'⟩ ((w1.setCell ⟨r.x,17,none⟩ (aO i'.cb)).setCell ⟨r.x,21,none⟩ (.bool false)) v l:=fun hd=>(cX.keep (cX.UW (Z':=⟨Z.B,ke o' i'⟩) hd rfl hf) ho).aA j hJ
 have hsc:r.EG≠r.x:=fun e=>by
  obtain⟨cs,hb⟩:=h.tD;rw[e]at hb;exact absurd (hb.same h.aq).1 aD
 have ZA:∀k,aK r.sv k→k≠r.x:=fun k hk e=>by
  obtain⟨cs,hb⟩:=h.its.fQ hk;rw[e]at hb;exact absurd (hb.same h.aq).1 aD
 have ti:=h.tC h.aq aD;exact {
  aq:=by
   have h2:=(fB.store 17 (aO i'.cb)).store 21 (.bool false);rw[Uf,zw]at h2;exact h2
  slots:=j.aq (ho.aq h.slots id) (h.slots.off h.aq aD)
  fw:=fun q hq=>hD (h.fw q hq)
  rc:=hn.dC j (fun k hk e=>by have:=hf k hk;rw[show k=r.x from e]at this;omega) fun k cs e _=>by
   rw[show k=r.x from e];exact⟨fun hb=>(fB.off hb aD) rfl,fun hb=>(fB.off hb aD) rfl⟩
  gd:=hg,dd:=fun b l e=>by cases e
  keys:=fun b=>by
   show(none:Option (List Int)).isSome=true↔b∈K.sp.all K.s0
   rw[K.nil];simp
  rg:=fun b hb=>by
   have hb:b∈K.sp.all K.s0:=hb;rw[K.nil]at hb
   cases hb
  yk:=j.aq (ho.aq h.yk id) (h.yk.off h.aq aD)
  its:=(h.its.aA ho fun _ _=>id).aA j fun k hk e=>ZA k hk e
  cap:=(h.cap.aA ho id).aA j hsc
  tD:=h.tD.imp fun cs hb=>j.aq (ho.aq hb id) hsc
  oq:=h.oq
  bw:=by
   obtain⟨A,n,m,e,h1,h2⟩:=h.bw;have aY:0<c.h.length→∀k,aK r.pz k→k<w.heap.size:=fun h0 k hk=>h1.lt h0 (e▸hk)
   refine⟨A,n,m,e,(h1.keep ho).mH j fun h0 k hk e2=>h2 h0 k (e▸hk) (.inr (.inl e2)),fun h0 k hk hW=>?_⟩;rcases hW with hW|hW
   ·have:=hf k hW;have:=aY h0 k hk;omega
   ·exact h2 h0 k hk (.inr hW)
  en:=((h.en.UW (Z':=⟨Z.B,ke o' i'⟩) rfl hf).keep ho).aA j hJ fun k hk e=>ti ((show k=r.x from e)▸hk)
  fs:=fun k hk=>by
   have h1:=hf k hk;refine⟨?_,?_,?_,?_,?_,?_⟩
   ·intro e;have e:k=r.x:=e;omega
   ·intro e;have e:k=r.zz:=e;have:=h.yk.lt;omega
   ·intro e;have e:k=r.EG:=e;obtain⟨cs,hb⟩:=h.tD;have:=hb.lt;omega
   ·intro e;have e:k=r.a8:=e;have:=h.slots.lt;omega
   ·intro e;obtain⟨cs,hb⟩:=h.its.fQ e;have:=hb.lt;omega
   ·intro e;have:=h.kB (k:=k) (.inr (.inr (.inr (.inr e))));omega
  lo:=fun k hk=>by
   rcases hk with hk|hk
   ·exact Nat.le_trans h.zb (hf k hk)
   ·exact h.lo k (.inr hk)
  zn:=fun k=>Iff.rfl
  right:=h.right}
structure LJ (Z:ZN){K:aZ}{c:aM}(a:cH K)(o:cJ K c 0)(r:kK)(M1 M2:CM K.σ)(Dr:Nat→List Int)(w:World):Prop where
 p:bm Z K c a M1 w
 q:bA Z o r M2 Dr w
 sep:∀k,jG c a k→¬mL o r k
theorem LJ.keep (h:LJ Z a o r M1 M2 Dr w)(ho:ag az w w'):LJ Z a o r M1 M2 Dr w':=⟨h.p.keep ho,h.q.keep ho,h.sep⟩
theorem LJ.prog (h:LJ Z a o r M1 M2 Dr w)(hp:bm Z K c a' M1' w')(hs:ib c a a' w w'):LJ Z a' o r M1' M2 Dr w' where
 p:=hp
 q:=h.q.off hs.o h.p.wr (fun k hk e=>h.sep k (.inl e) (.inl hk)) (fun k cs hk=>⟨fun hb=>absurd (h.p.Gg hk hb) aD,fun hb=>absurd (h.p.Gg hk hb) aD,fun hb=>absurd (h.p.Gg hk hb) aD⟩) fun h0 k hk e=>h.sep k (.inl e) (.inr ⟨h0,hk⟩)
 sep:=fun k hk e=>(hs.X k hk).elim (fun h1=>h.sep k h1 e) fun h1=>by have:=h.q.uU e;omega
theorem LJ.ref (h:LJ Z a o r M1 M2 Dr w)(hq:bA Z o r' M2' uO w')(hs:vO o r r' w w'):LJ Z a o r' M1 M2' uO w' where
 p:=h.p.dC hs.ow h.q.wr fun k hk e=>h.sep k hk (.inl e)
 q:=hq
 sep:=fun k hk e=>by
  rcases e with e|⟨h0,e⟩
  ·rcases hs.W k e with e|e
   ·exact h.sep k hk (.inl e)
   ·have:=h.p.uU hk;omega
  ·rw[hs.hv]at e;exact h.sep k hk (.inr ⟨h0,e⟩)
theorem LJ.gone (h:LJ Z a o r M1 M2 Dr w)(hn:ta o' i' K.s0 uO w1)(ho:ag az w w1)(hf:∀k,ke o' i' k→w.heap.size≤k)(hl:∀k,ke o' i' k→k<w1.heap.size)(hg:nU K K.s0):
 LJ ⟨Z.B,ke o' i'⟩ a o' {r with r:=i'} M1 (zP K.s0 M2) uO ((w1.setCell ⟨r.x,17,none⟩ (aO i'.cb)).setCell ⟨r.x,21,none⟩ (.bool false)):=by
 have fB:=ho.aq h.q.aq id;have j:ag (ar r.x) w1 ((w1.setCell ⟨r.x,17,none⟩ (aO i'.cb)).setCell ⟨r.x,21,none⟩ (.bool false)):=((ag.aj (ar r.x) w1).setCell (p:=⟨r.x,17,none⟩) (.inl (show ar r.x r.x from rfl)) _).setCell (p:=⟨r.x,21,none⟩) (.inl (show ar r.x r.x from rfl)) _;have hJ:Wr ⟨Z.B,ke o' i'⟩ (ar r.x) w1:=fun k _ e=>by
  rw[show k=r.x from e];exact⟨h.q.lo _ (.inr (.inl rfl)),.inr fun cs hb=>(fB.off hb aD) rfl⟩
 refine⟨(h.p.UW (Z':=⟨Z.B,ke o' i'⟩) ho rfl hf hl).dC j hJ fun k hk e=>h.sep k hk (.inl (.inr (.inl e))),h.q.gone hn ho hf hg,fun k hk e=>?_⟩;rcases e with(e|e)|e
 ·have:=hf k e;have:=h.p.uU hk;omega
 ·exact h.sep k hk (.inl (.inr e))
 ·exact h.sep k hk (.inr e)
theorem LJ.start {B:Nat}(h:bm ⟨B,fun _=>False⟩ K c a M w)(hq:bA ⟨B,ke o r.r⟩ o r M2 Dr w')(ho:ag az w w')(hf:∀k,mL o r k→w.heap.size≤k):LJ ⟨B,ke o r.r⟩ a o r M M2 Dr w':=
 ⟨h.UW (Z':=⟨B,ke o r.r⟩) ho rfl (fun k hk=>hf k (.inl (.inl hk))) (fun k hk=>hq.kB (.inl hk)),hq,fun k hk e=>by have:=h.uU hk;have:=hf k e;omega⟩
end
def Gj:PM:=CH 0 0 0 0 0 0 []
def E5:nP:=⟨0,0,false,0,[]⟩
def nH (n:Nat)(S:Nat→kY)(a:iO):PM:=
 if a.kind≠4∨a.slot<0∨(n:Int)≤a.slot then⟨a.m,a.d⟩
 else⟨⟨fun i=>[if(S a.slot.toNat).wr=true then 6 else 5,0,a.slot,0,(S a.slot.toNat).op,(S a.slot.toNat).blk,(S a.slot.toNat).lev,0,a.m.f 8].getD i 0,a.m.g⟩,if(S a.slot.toNat).wr=true then[]else a.d⟩
noncomputable def lI (K:aZ)(c:aM)(M:CM K.σ)(a:iO):CM K.σ:=
 if a.kind=0 then(if dJ c M.S a.slot a.wr (a.m.f 5) a.d.length=0 then bB K.sp c (cN c) M a.slot.toNat a.wr (a.m.f 5) a.d else M)
 else if a.kind=1∨a.kind=4 then bd K.sp c (cN c) M (nH (cN c) M.S a).m (nH (cN c) M.S a).d
 else if a.kind=2 then {M with up:=true}
 else if a.kind=3 then zP K.s0 M
 else M
section
variable {K:aZ}{c:aM}{M:CM K.σ}
theorem uC {S:Nat→kY}{i b:Int}{wr:Bool}{l:Nat}(hc:cK c)(h:dJ c S i wr b l=0):(∃j:Nat,i=j∧j<cN c)∧(∃q:Nat,b=q∧(q:Int)<c.f 2)∧(wr=true→(l:Int)=c.f 3)∧(S i.toNat).op=0:=by
 unfold dJ at h
 split at h
 ·omega
 rename_i h1
 split at h
 ·omega
 rename_i h2
 split at h
 ·omega
 rename_i h3
 split at h
 ·omega
 rename_i h4
 have:=hc.p1;refine⟨⟨i.toNat,ao,by unfold cN;omega⟩,⟨b.toNat,ao,ao⟩,fun hw=>?_,ao⟩;have h5:¬((l:Int)≠c.f 3):=fun e=>h3 ⟨hw,e⟩
 omega
structure DF (K:aZ)(c:aM)(M:CM K.σ)(k:Nat):Prop where
 en:M.en= []
 sl:Bo c M.S
 ops:M.ops≤k
 eE:K.sp.eE M.s≤k
theorem BN (h:M.en= [])(a:iO):(lI K c M a).en.length≤1:=by
 unfold lI
 repeat' split
 ·exact we h _ _ _ _
 ·rw[h];exact dT _
 ·exact zk h _ _
 ·show M.en.length≤1
  rw[h];exact dT _
 ·show M.en.length≤1
  rw[h];exact dT _
 ·rw[h];exact dT _
theorem DF.step {k:Nat}(h:DF K c M k)(hc:cK c)(i:K.ι)(h0:K.sp.eE K.s0=0)(a:iO):DF K c ((lI K c M a).wE []) (k+1) where
 en:=rfl
 sl:=by
  show Bo c (lI K c M a).S
  unfold lI
  repeat' split
  ·rename_i h1 h2
   obtain⟨_,⟨q,e1,e2⟩,_⟩:=uC hc h2;exact h.sl.begin ao ao
  ·exact h.sl
  ·exact h.sl.aaC
  ·exact h.sl
  ·exact h.sl
  ·exact h.sl
 ops:=by
  have h1:=h.ops
  show(lI K c M a).ops≤_
  unfold lI
  repeat' split
  ·rw[uc];omega
  ·omega
  ·rw[Cs];omega
  ·show M.ops≤_;omega
  ·show M.ops≤_;omega
  ·omega
 eE:=by
  have h1:=h.eE
  show K.sp.eE (lI K c M a).s≤_
  unfold lI
  repeat' split
  ·have:=Jp (sp:=K.sp) (c:=c) (n:=cN c) (M:=M) (K.oc i).KA (K.oc i).VS a.slot.toNat a.wr (a.m.f 5) a.d;omega
  ·omega
  ·have:=LH (sp:=K.sp) (c:=c) (n:=cN c) (M:=M) (K.oc i).KA (K.oc i).VT (nH (cN c) M.S a).m (nH (cN c) M.S a).d;omega
  ·show K.sp.eE M.s≤_;omega
  ·show K.sp.eE K.s0≤_;omega
  ·omega
end
section
variable {Z:ZN}{w:World}
theorem Nv (g n:Nat):(⟨g,0,none⟩:Addr).add n=⟨g,n,none⟩:=by
 cases n with
 |zero=>rfl
 |succ n=>simp[Addr.add]
theorem Xb (p:PM×Value):((fun p:PM×Value=>(aP p.1.m p.2).toList) p).length=11:=rfl
theorem sO{P:Prop}(h:P:=by
 rw[List.getD_eq_getElem?_getD,List.getD_eq_getElem?_getD,List.getElem?_map,List.getElem?_eq_getElem hi];rfl):P:=h
theorem bg.at_ {base:Nat}{v:Value}{L:List PM}(h:bg Z w base v L){i:Nat}(hi:i<L.length):∃g cap A m,v=aU g L.length cap∧(∀j u,(aP (L.getD i Gj).m (.slice A (L.getD i Gj).d.length m))[j]? =some u→aE w g (i*11+j) u)∧cX Z w (.slice A (L.getD i Gj).d.length m) (L.getD i Gj).d:=by
 obtain⟨X,rfl,h1,h2⟩:=h;rw[List.length_map]at hi;obtain⟨A,cap,e,_,_⟩:=cz h1;have hx:X.getD i (Gj,aJ)∈X:=by
  rw[List.getD_eq_getElem?_getD,List.getElem?_eq_getElem hi];exact List.getElem_mem hi
 have hm:(X.map Prod.fst).getD i Gj=(X.getD i (Gj,aJ)).1:=by
  exact sO
 have hdd:=h2 _ hx;obtain⟨A1,m1,e1⟩:=hdd.shape;obtain⟨hlen,h3⟩:=h1;rcases h3 with⟨_,h0⟩|⟨g,cp,cur,e2,hb,hg,hn,pY,hs,ht⟩
 ·omega
 ·refine⟨g,cp,A1,m1,by rw[e2,List.length_map],fun j u hj=>?_,by rw[hm,←e1];exact hdd⟩;rw[hm,←e1]at hj;have afg:j<11:=by
   rcases Nat.lt_or_ge j 11 with h|h
   ·exact h
   ·rw[Array.getElem?_eq_none (by show 11≤j;exact h)]at hj;cases hj
  have hcell:=World.ownsRow.cells (w:=w) (base:=base) (e:=37) (size:=11) (v:=v) (n:=X.length) (xs:=X.flatMap fun p=>(aP p.1.m p.2).toList) ⟨hlen,.inr ⟨g,cp,cur,e2,hb,hg,hn,pY,hs,ht⟩⟩ (g:=g) (by rw[e2];rfl) (i*11+j) u (by
   rw[mP (fun p:PM×Value=>(aP p.1.m p.2).toList) 11 (Gj,aJ) Xb X i j hi afg,Array.getElem?_toList];exact hj)
  rwa [Nv]at hcell
theorem abx (p:nP×Value):((fun p:nP×Value=>jD p.1 p.2) p).length=5:=rfl
theorem dy.at_ {base:Nat}{v:Value}{L:List nP}(h:dy Z w base v L){i:Nat}(hi:i<L.length):∃g cap A m,v=aU g L.length cap∧(∀j u,(jD (L.getD i E5) (.slice A (L.getD i E5).ed.length m))[j]? =some u→aE w g (i*5+j) u)∧cX Z w (.slice A (L.getD i E5).ed.length m) (L.getD i E5).ed:=by
 obtain⟨X,rfl,h1,h2⟩:=h;rw[List.length_map]at hi;have hx:X.getD i (E5,aJ)∈X:=by
  rw[List.getD_eq_getElem?_getD,List.getElem?_eq_getElem hi];exact List.getElem_mem hi
 have hm:(X.map Prod.fst).getD i E5=(X.getD i (E5,aJ)).1:=by
  exact sO
 have hdd:=h2 _ hx;obtain⟨A1,m1,e1⟩:=hdd.shape;obtain⟨hlen,h3⟩:=h1;rcases h3 with⟨_,h0⟩|⟨g,cp,cur,e2,hb,hg,hn,pY,hs,ht⟩
 ·omega
 ·refine⟨g,cp,A1,m1,by rw[e2,List.length_map],fun j u hj=>?_,by rw[hm,←e1];exact hdd⟩;rw[hm,←e1]at hj;have hj5:j<5:=by
   rcases Nat.lt_or_ge j 5 with h|h
   ·exact h
   ·rw[List.getElem?_eq_none (by show 5≤j;exact h)]at hj;cases hj
  have hcell:=World.ownsRow.cells (w:=w) (base:=base) (e:=58) (size:=5) (v:=v) (n:=X.length) (xs:=X.flatMap fun p=>jD p.1 p.2) ⟨hlen,.inr ⟨g,cp,cur,e2,hb,hg,hn,pY,hs,ht⟩⟩ (g:=g) (by rw[e2];rfl) (i*5+j) u (by
   rw[mP (fun p:nP×Value=>jD p.1 p.2) 5 (E5,aJ) abx X i j hi hj5];exact hj)
  rwa [Nv]at hcell
end
end Go.Proofs.YtchofaecncibjaaGreat

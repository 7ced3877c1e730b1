/- Lemmas. -/
import Derived.Test.YtpcfhbeakecihaaGreatM2
import Derived.Test.YtpcfhbeakecihaaGreatM3
import Derived.Test.YtpcfhbeakecihaaGreatM19
import Derived.Deep.DeepCutAuto
set_option linter.all false
set_option maxHeartbeats 20000000
set_option maxRecDepth 100000
namespace Go.Proofs.YtpcfhbeakecihaaGreat
open Go.ChangeShapes Go.RowKit Go.WideShapes
theorem ij:∀(n:Nat) (L:List Int),L.Nodup→(∀x∈L,0≤x∧x<n)→L.length≤n
 |0,L,_,h=>by
  cases L with
  |nil=>exact eK _
  |cons a L=>have:=h a (List.mem_cons_self ..);omega
 |n+1,L,hn,h=>by
  by_cases hm:(n:Int)∈L
  ·have h1:=ij n (L.erase n) (hn.erase _) fun x hx=>by
    have h2:=h x (List.mem_of_mem_erase hx);have h3:x≠n:=fun e=>(List.Nodup.not_mem_erase hn) (e▸hx)
    omega
   rw[List.length_erase_of_mem hm]at h1;omega
  ·have h1:=ij n L hn fun x hx=>by
    have h2:=h x hx;have h3:x≠n:=fun e=>hm (e▸hx)
    omega
   omega
theorem lN.len {m:Nat}{N:Int→Nd}{E:Nat→En}{S:Nat→List Int}(h:lN m N E S)(i:Nat):(S i).length≤64:=ij 64 _ (h.nodup i) fun _ hx=>h.gr hx
def nC (n:Nd):Array Value:=#[ah n.l,ah n.a,ah n.b]
theorem Bb (n:Nd):(nC n).all (·.oneCell')=true:=by simp[nC,Value.oneCell']
def iu (g eb:Nat):Nat→Prop:=fun k=>k=g∨k=eb
def yU (N:Int→Nd)(b:Int):Int→Nd:=if(N b).a= -1 then N else aD N (N b).a {N (N b).a with b:=(N b).b}
def BM (N:Int→Nd)(n:Nd):Int→Nd:=if n.b= -1 then N else aD N n.b {N n.b with a:=n.a}
def wK (E:Nat→En)(i:Nat)(n:Nd):Nat→En:=if n.a= -1 then aW E i {E i with f:=n.b} else E
def wJ (E:Nat→En)(i:Nat)(n:Nd):Nat→En:=if n.b= -1 then aW E i {E i with k:=n.a} else E
theorem xX (N:Int→Nd)(b:Int):p8 N b=aD (BM (yU N b) (N b)) b {BM (yU N b) (N b) b with l:=-1}:=rfl
theorem xY (E:Nat→En)(i:Nat)(n:Nd):uq E i n=aW (wJ (wK E i n) i n) i {wJ (wK E i n) i n i with m:=(E i).m - 1}:=by
 funext x
 unfold uq wJ wK aW
 split
 ·subst x
  split<;>split<;>simp_all [aW]
 ·split<;>split<;>simp_all [aW]
theorem El (E:Nat→En)(i:Nat)(n:Nd):(wJ (wK E i n) i n i).m=(E i).m:=by
 unfold wJ wK aW
 split<;>split<;>simp_all [aW]
section
theorem xW {g eb m:Nat}{N:Int→Nd}{E:Nat→En}{i:Nat}{n:Nat}(w:World)(h:fa w g eb m N E)(hn:n<64)(hi:i<m)(hl:(N n).l=i)
 (ha:(N n).a= -1∨∃a:Nat,a<64∧(N n).a=a) (hb:(N n).b= -1∨∃a:Nat,a<64∧(N n).b=a) (hm:0≤(E i).m∧(E i).m≤64):
 Calls Tryz.prog 195 #[aI g,ah n] w fun e w'=>e= .returned (.tuple #[])∧fa w' g eb m (p8 N n) (uq E i (N n))∧af (iu g eb) w w':=by
 have c0:aF w g (n*3) ((N n).l):=h.node (b:=n) (j:=0) hn av;have c1:aF w g (n*3+1) ((N n).a):=h.node (b:=n) (j:=1) hn av;have c2:aF w g (n*3+2) ((N n).b):=h.node (b:=n) (j:=2) hn av;have H:=ae h;have Fe:(n:Int)<64:=ai;have pX:(i:Int)<m:=ai;clear h;generalize wE:N n=nd at *;have Dm:=ae wE;have HL:=ae hl;have HM:=ae hm;have HA:=ae ha;have HB:=ae hb;clear wE hl hm ha hb
 go_enter Tryz.func195,Tryz.ntmps195
 go_upto_region 1 with(refine pT (nC nd) (Box.fresh w 224 #[ah 0,ah 0,ah 0]) (Bb nd) ?_);have a8:af aA w ((w.alloc (.cells #[ah 0,ah 0,ah 0] 224)).setRow w.heap.size (nC nd)):=((af.ak aA w).alloc _).aK (.inr (dT _)) _;have cQ:=ae<|(Box.fresh w 224 #[ah 0,ah 0,ah 0]).aK (nC nd);have Au:=aH (w.heap.size≠g∧w.heap.size≠eb) (⟨fun e=>by have:=H.1.lt;omega,fun e=>by have:=H.2.lt;omega⟩);have H1:=ae<|H.ao a8 id id;have bw:=ae<|a8.mono (S':=iu g eb) fun _ h=>h.elim;change Code.wp _ _ _ _ ((w.alloc (.cells #[ah 0,ah 0,ah 0] 224)).setRow w.heap.size (nC nd));clear a8 H c0 c1 c2;generalize(w.alloc (.cells #[ah 0,ah 0,ah 0] 224)).setRow w.heap.size (nC nd)=W1 at *;generalize w.heap.size=nb at *;obtain⟨l,a,b⟩:=nd;have hl:=HL.out;dsimp only at hl;subst hl;have b0:aF W1 nb 0 i:=cQ.ag rfl;have b1:aF W1 nb 1 a:=cQ.ag rfl;have b2:aF W1 nb 2 b:=cQ.ag rfl;have hh:=H1.hd;refine kb (fun w':World=>w'=W1.drew) 7 ?_ ?_
 ·rfl
 intro aX;refine eZ [0,1,2,3,4,5,6] ?_;refine jz ?_;go_upto_region 2 with fail;have H2:=aH (fa W1.drew g eb m N E) (H1);have eC:=aH (Box W1.drew nb 224 (nC ⟨i,a,b⟩)) (cQ);have bR:=ae bw.drew;clear b0 b1 b2 hh H1 cQ bw HL;generalize W1.drew=W2 at *;have b0:aF W2 nb 0 i:=eC.ag rfl;have b1:aF W2 nb 1 a:=eC.ag rfl;have b2:aF W2 nb 2 b:=eC.ag rfl;go_upto_if 21 with fail
 go_cut [] (fun wx=>fa wx g eb m (yU N n) (wK E i ⟨i,a,b⟩)∧af (iu g eb) W2 wx)
 case first=>
  have ha:=HA.out;clear HA HB HM;rcases ha with ha|⟨a',ha',ha⟩
  ·dsimp only at ha;subst ha;have e1:=ae (show yU N n=N by unfold yU;rw[Dm.out];rfl);have e2:=aH (wK E i ⟨i,-1,b⟩=aW E i {E i with f:=b}) (rfl);have f:=H2.2.free (i*3);have ce:aF W2 eb (i*3) ((E i).f):=H2.end_ (b:=i) (j:=0) hi av;go_wp2
   go_meet
   case rel=>
    refine⟨?_,af.setCell (p:=⟨eb,i*3,none⟩) (af.ak _ _) (.inl (.inr rfl)) _⟩;rw[e1.out,e2.out];exact H2.mM hi (j:=0) av _ _ fun k hk=>by
     rcases(show k=0∨k=1∨k=2 by omega)with rfl|rfl|rfl<;>rfl
  ·dsimp only at ha;subst ha;have e:¬((a':Int)= -1):=ai;have e1:=ae (show yU N n=aD N a' {N a' with b:=b} by unfold yU;rw[Dm.out];exact if_neg e);have e2:=aH (wK E i ⟨i,a',b⟩=E) (if_neg e);clear e;have f:=H2.1.free (a'*3+2);have Oj:(a':Int)<64:=ai;have ca:aF W2 g (a'*3+2) ((N a').b):=H2.node (b:=a') (j:=2) ha' av;go_upto_region 4 with fail;refine kb (fun w':World=>w'=W2.drew) 9 ?_ ?_
   ·rfl
   intro aX;refine eZ [0,1,2,3,4,5,6,7,8] ?_;refine jz ?_;clear aX;go_wp2
   go_meet
   case rel=>
    refine⟨?_,(af.setCell (p:=⟨g,a'*3+2,none⟩) ((af.ak _ _).drew) (.inl (.inl rfl)) _)⟩;rw[e1.out,e2.out];exact(show fa W2.drew g eb m N E from H2).nU ha' (j:=2) av _ _ fun k hk=>by
     rcases(show k=0∨k=1∨k=2 by omega)with rfl|rfl|rfl<;>rfl
 case rest=>
  obtain⟨h3,bQ⟩:=hcut;obtain⟨W3,e3⟩:∃W3,W3=wc:=⟨_,rfl⟩;subst e3;have H3:=ae h3;have kj:=ae<|bQ.az eC (fun h=>h.elim Au.1 Au.2);have b7:=ae<|bR.trans bQ;have HB:=HB;clear h3 bQ b0 b1 b2 H2 bR eC;have Iw:=ae<|xX N n;have L8:=ae<|xY E i ⟨i,a,b⟩;have hq:(wJ (wK E i ⟨i,a,b⟩) i ⟨i,a,b⟩ i).m=(E i).m:=El E i ⟨i,a,b⟩;rw[Dm.out]at Iw;generalize yU N n=N1 at *;generalize wK E i ⟨i,a,b⟩=E1 at *;have FV:=ae hq;clear hq;have b0:aF W3 nb 0 i:=kj.ag rfl;have b1:aF W3 nb 1 a:=kj.ag rfl;have b2:aF W3 nb 2 b:=kj.ag rfl;go_upto_if 38 with fail
  go_cut [] (fun wx=>fa wx g eb m (BM N1 ⟨i,a,b⟩) (wJ E1 i ⟨i,a,b⟩)∧af (iu g eb) W3 wx)
  case first=>
   have hb:=HB.out;clear HA HB HM Iw L8 FV;rcases hb with hb|⟨b',iF,hb⟩
   ·dsimp only at hb;subst hb;have e1:=aH (BM N1 ⟨i,a,-1⟩=N1) (rfl);have e2:=aH (wJ E1 i ⟨i,a,-1⟩=aW E1 i {E1 i with k:=a}) (rfl);have f:=H3.2.free (i*3+1);have ce:aF W3 eb (i*3+1) ((E1 i).k):=H3.end_ (b:=i) (j:=1) hi av;go_wp2
    go_meet
    case rel=>
     refine⟨?_,af.setCell (p:=⟨eb,i*3+1,none⟩) (af.ak _ _) (.inl (.inr rfl)) _⟩;rw[e1.out,e2.out];exact H3.mM hi (j:=1) av _ _ fun k hk=>by
      rcases(show k=0∨k=1∨k=2 by omega)with rfl|rfl|rfl<;>rfl
   ·dsimp only at hb;subst hb;have e:¬((b':Int)= -1):=ai;have e1:=aH (BM N1 ⟨i,a,b'⟩=aD N1 b' {N1 b' with a:=a}) (if_neg e);have e2:=aH (wJ E1 i ⟨i,a,b'⟩=E1) (if_neg e);clear e;have f:=H3.1.free (b'*3+1);have QL:(b':Int)<64:=ai;have ca:aF W3 g (b'*3+1) ((N1 b').a):=H3.node (b:=b') (j:=1) iF av;go_upto_region 7 with fail;refine kb (fun w':World=>w'=W3.drew) 9 ?_ ?_
    ·rfl
    intro aX;refine eZ [0,1,2,3,4,5,6,7,8] ?_;refine jz ?_;clear aX;go_wp2
    go_meet
    case rel=>
     refine⟨?_,(af.setCell (p:=⟨g,b'*3+1,none⟩) ((af.ak _ _).drew) (.inl (.inl rfl)) _)⟩;rw[e1.out,e2.out];exact(show fa W3.drew g eb m N1 E1 from H3).nU iF (j:=1) av _ _ fun k hk=>by
      rcases(show k=0∨k=1∨k=2 by omega)with rfl|rfl|rfl<;>rfl
  case rest=>
   obtain⟨h4,gB⟩:=hcut;clear b0 b1 b2 kj H3;have jb:=ae<|b7.trans gB;clear b7 gB;obtain⟨W4,e4⟩:∃W4,W4=wc:=⟨_,rfl⟩;subst e4;generalize BM N1 ⟨i,a,b⟩=N2 at *;generalize wJ E1 i ⟨i,a,b⟩=E2 at *;have H4:=ae h4;clear h4;have hm:=HM.out;rw[←FV.out]at hm;have ce:=H4.end_ (b:=i) (j:=2) hi av
   replace ce:aF W4 eb (i*3+2) ((E2 i).m):=ce
   have cn:aF W4 g (n*3) ((N2 n).l):=H4.node (b:=n) (j:=0) hn av;have f1:=H4.2.free (i*3+2);have f2:=H4.1.free (n*3);have hq:=FV.out;generalize w9:(E2 i).m=q at *;have Pu:=ae w9;have hw:IntKind.i64.wrap (q - 1)=q - 1:=by rw[IntKind.wrap_i64];omega
   have pS:=ae hm;have Kz:eb≠g:=fun e=>H4.ne e.symm
   have P2:g≠eb:=H4.ne;clear w9 hm hq HA HB;go_wp2
   go_end0
   refine⟨rfl,?_,(jb.setCell (p:=⟨eb,i*3+2,none⟩) (.inl (.inr rfl)) _).setCell (p:=⟨g,n*3,none⟩) (.inl (.inl rfl)) _⟩;rw[Iw.out,L8.out,←FV.out];have s1:=H4.mM hi (j:=2) av (ah (q - 1)) {E2 i with m:=q - 1} fun k hk=>by
    rcases(show k=0∨k=1∨k=2 by omega)with rfl|rfl|rfl<;>rfl
   exact s1.nU hn (j:=0) av (ah (-1)) {N2 n with l:=-1} fun k hk=>by
    rcases(show k=0∨k=1∨k=2 by omega)with rfl|rfl|rfl<;>rfl
def bE (S:Nat→List Int)(b:Int):Nat→List Int:=fun j=>(S j).erase b
theorem lN.rem_in {m:Nat}{N:Int→Nd}{E:Nat→En}{S:Nat→List Int}(h:lN m N E S){i:Nat}{b:Int}(hb:b∈S i):lA S i b=bE S b:=by
 funext j
 unfold lA bE aW
 split
 ·rename_i e;rw[e]
 ·rename_i e
  exact(List.erase_of_not_mem fun h2=>e (h.dj h2 hb)).symm
theorem qf {S:Nat→List Int}{b:Int}(hb:∀i,b∉S i):bE S b=S:=funext fun j=>List.erase_of_not_mem (hb j)
theorem lN.node {m:Nat}{N:Int→Nd}{E:Nat→En}{S:Nat→List Int}(h:lN m N E S){i:Nat}{b:Int}(hb:b∈S i):
 ((N b).a= -1∨∃a:Nat,a<64∧(N b).a=a)∧((N b).b= -1∨∃a:Nat,a<64∧(N b).b=a):=by
 have key:∀x:Int,x∈S i→∃a:Nat,a<64∧x=a:=fun x hx=>by
  obtain⟨h1,h2⟩:=h.gr hx;exact⟨x.toNat,ai,ai⟩
 rw[h.se hb];exact⟨(qh (S i) b (h.gr hb).1).imp id fun h2=>key _ h2,(mU (S i) b).imp id fun h2=>key _ h2⟩
theorem cU.vg {g eb m:Nat}{S:Nat→List Int}{i n:Nat}{w:World}(h:cU w g eb m S)(hb:(n:Int)∈S i):
 Calls Tryz.prog 195 #[aI g,ah n] w fun e w'=>e= .returned (.tuple #[])∧cU w' g eb m (bE S n)∧af (iu g eb) w w':=by
 obtain⟨N,E,hm,hr,h1,h2⟩:=h;have hn:=(hr.gr hb).2;have hi:=hr.lt hb;obtain⟨ha,iF⟩:=hr.node hb;have hlen:=hr.len i;refine(xW w hm ai hi (by rw[hr.se hb]) ha iF (by rw[hr.ends i hi];constructor<;>(try dsimp only)<;>omega)).mono fun e w' ⟨h3,h4,h5⟩=>⟨h3,⟨_,_,h4,?_,h1,h2⟩,h5⟩
 rw[←hr.rem_in hb];exact hr.outs hb
theorem oR {g eb m:Nat}{S:Nat→List Int}{i:Nat}{w:World}(h:cU w g eb m S)(hi:i<m):Calls Tryz.prog 191 #[aI g,ah i] w fun e w'=>e= .returned (.bool true)∧w=w':=by
 have:=jt (i:Int) w h;rwa [show(decide (0≤(i:Int))&&decide ((i:Int)<m))=true by simp;omega]at this
theorem mD (g:Nat){n:Nat}(w:World)(hn:n<64):Calls Tryz.prog 194 #[aI g,ah n] w fun e w'=>e= .returned (.bool true)∧w=w':=by
 have:=mE g n w;rwa [show(decide (0≤(n:Int))&&decide ((n:Int)<64))=true by simp;omega]at this
theorem vJ {g eb m:Nat}{S:Nat→List Int}{i n:Nat}(w:World)(h:cU w g eb m S)(hi:i<m)(hn:n<64):
 Calls Tryz.prog 196 #[aI g,ah i,ah n] w fun e w'=>e= .returned (ah 0)∧cU w' g eb m (bE S n)∧af (iu g eb) w w':=by
 have Fe:(n:Int)<64:=ai;have pX:(i:Int)<m:=ai
 by_cases hb:∃k,(n:Int)∈S k
 ·obtain⟨k,hb⟩:=hb;have HC:=ae<|h.vg hb;have FZ:=ae<|oR h hi;have wQ:=ae<|mD g w hn;obtain⟨N,E,hm,hr,_⟩:=h;have hc:aF w g (n*3) ((N n).l):=hm.node (b:=n) (j:=0) hn av;rw[hr.se hb]at hc;have hh:=hm.hd;dsimp only at hc;clear hm hr hb
  go_enter Tryz.func196,Tryz.ntmps196
  go_wp2_with (first|(go_at_call 195;refine HC.mono ?_;rintro e W1 ⟨rfl,h1,a8⟩)|(go_at_call 191;refine FZ.mono ?_;rintro e W0 ⟨rfl,rfl⟩)|(go_at_call 194;refine wQ.mono ?_;rintro e W0 ⟨rfl,rfl⟩));go_ret;exact⟨rfl,h1,a8⟩
 ·have hb:∀k,(n:Int)∉S k:=fun k hk=>hb ⟨k,hk⟩
  rw[qf hb];have H:=ae h;obtain⟨N,E,hm,hr,_⟩:=h;have hc:aF w g (n*3) ((N n).l):=hm.node (b:=n) (j:=0) hn av;rw[hr.no ai ai hb]at hc;have hh:=hm.hd;clear hm hr hb
  go_enter Tryz.func196,Tryz.ntmps196
  go_wp2;go_ret;exact⟨rfl,H,af.ak _ _⟩
theorem cr{P:Prop}(h:P:=by
 clear hb
 go_enter Tryz.func196,Tryz.ntmps196
 go_wp2;go_ret;exact⟨rfl,rfl⟩):P:=h
theorem Cq {g eb m:Nat}{S:Nat→List Int}{l b:Int}(w:World)(h:cU w g eb m S)(hb:¬(0≤l∧l<m∧0≤b∧b<64)):
 Calls Tryz.prog 196 #[aI g,ah l,ah b] w fun e w'=>e= .returned (ah 3)∧w=w':=by
 obtain⟨N,E,hm,hr,_⟩:=h;have hh:=hm.hd;clear hm hr
 by_cases h1:0≤l
 ·by_cases h2:l<m
  ·by_cases h3:0≤b
   ·have h4:¬b<64:=fun h4=>hb ⟨h1,h2,h3,h4⟩
    exact cr
   ·exact cr
  ·exact cr
 ·exact cr
theorem dQ {g eb m:Nat}{S:Nat→List Int}{i n:Nat}(w:World)(h:cU w g eb m S)(hb:(n:Int)∈S i):
 Calls Tryz.prog 187 #[aI g,ah n] w fun e w'=>e= .returned (ah 0)∧cU w' g eb m (bE S n)∧af (iu g eb) w w':=by
 have HC:=ae<|h.vg hb;obtain⟨N,E,hm,hr,_⟩:=h;have hn:=(hr.gr hb).2;have wQ:=ae<|mD g (n:=n) w ai;have hc:aF w g (n*3) ((N n).l):=hm.node (b:=n) (j:=0) ai av;rw[hr.se hb]at hc;dsimp only at hc;clear hm hr hb
 go_enter Tryz.func187,Tryz.ntmps187
 go_wp2_with (first|(go_at_call 195;refine HC.mono ?_;rintro e W1 ⟨rfl,h1,a8⟩)|(go_at_call 194;refine wQ.mono ?_;rintro e W0 ⟨rfl,rfl⟩));go_ret;exact⟨rfl,h1,a8⟩
end
theorem l3 {α:Type}(f:Int→α)(k:Int)(u v:α):aD (aD f k u) k v=aD f k v:=by
 funext x
 unfold aD
 split<;>rfl
theorem jK {α:Type}(f:Nat→α)(k:Nat)(u v:α):aW (aW f k u) k v=aW f k v:=by
 funext x
 unfold aW
 split<;>rfl
theorem l4 {α:Type}(f:Int→α)(k:Int)(u:α):aD f k u k=u:=by simp[aD]
theorem sy {α:Type}(f:Nat→α)(k:Nat)(u:α):aW f k u k=u:=by simp[aW]
def C6 (N:Int→Nd)(n f:Int):Int→Nd:=if f= -1 then N else aD N f {N f with a:=n}
def uh (E:Nat→En)(i:Nat)(n f:Int):Nat→En:=if f= -1 then aW E i {E i with k:=n} else E
theorem tz (N:Int→Nd)(E:Nat→En)(i:Nat)(n:Int):mY N E i n=C6 (aD N n ⟨i,-1,(E i).f⟩) n (E i).f:=rfl
theorem tA (E:Nat→En)(i:Nat)(n:Int):mZ E i n=aW (uh E i n (E i).f) i ⟨n,(uh E i n (E i).f i).k,(E i).m+1⟩:=by
 funext x
 unfold mZ uh aW
 split
 ·split<;>simp_all [aW]
 ·split<;>simp_all [aW]
theorem Ej (E:Nat→En)(i:Nat)(n f:Int):(uh E i n f i).m=(E i).m:=by
 unfold uh aW
 split<;>simp_all
theorem Ek (E:Nat→En)(i:Nat)(n f:Int):(uh E i n f i).f=(E i).f:=by
 unfold uh aW
 split<;>simp_all
section
theorem fa.xM {w:World}{g eb m:Nat}{N:Int→Nd}{E:Nat→En}(h:fa w g eb m N E){b:Nat}(hb:b<64)(n:Nd):
 fa (((w.setCell ⟨g,b*3,none⟩ (ah n.l)).setCell ⟨g,b*3+1,none⟩ (ah n.a)).setCell ⟨g,b*3+2,none⟩ (ah n.b)) g eb m (aD N b n) E:=by
 have s1:=h.nU hb (j:=0) av (ah n.l) {N b with l:=n.l} fun k hk=>by
  rcases(show k=0∨k=1∨k=2 by omega)with rfl|rfl|rfl<;>rfl
 have s2:=s1.nU hb (j:=1) av (ah n.a) {N b with l:=n.l,a:=n.a} fun k hk=>by
  rw[l4];rcases(show k=0∨k=1∨k=2 by omega)with rfl|rfl|rfl<;>rfl
 have s3:=s2.nU hb (j:=2) av (ah n.b) n fun k hk=>by
  rw[l4];rcases(show k=0∨k=1∨k=2 by omega)with rfl|rfl|rfl<;>rfl
 rw[l3,l3]at s3;exact s3
theorem dz{P:Prop}(h:P:=by
 rw[sy];rcases(show k=0∨k=1∨k=2 by omega)with rfl|rfl|rfl<;>rfl):P:=h
theorem di {g eb m:Nat}{S:Nat→List Int}{i n:Nat}(w:World)(h:cU w g eb m S)(hi:i<m)(hn:n<64):
 Calls Tryz.prog 188 #[aI g,ah i,ah n] w fun e w'=>e= .returned (ah 0)∧cU w' g eb m (aG (bE S n) i n)∧af (iu g eb) w w':=by
 have Fe:(n:Int)<64:=ai;have pX:(i:Int)<m:=ai;have HR:=ae<|vJ w h hi hn;have xt:∀j,(n:Int)∉bE S n j:=by
  obtain⟨N,E,hm,hr,_⟩:=h;exact fun j=>List.Nodup.not_mem_erase (hr.nodup j)
 generalize bE S n=S1 at *;have DZ:=ae xt;clear h xt
 go_enter Tryz.func188,Tryz.ntmps188
 go_upto_region 4 with(go_at_call 196;refine HR.mono ?_;rintro e W1 ⟨rfl,h1,a8⟩);clear HR;obtain⟨N,E,hm,hr,Kq,DJ⟩:=h1;have DB:=hr.Bk hi ai Fe DZ;have AL:∀x:Nat,hd (S1 i)=x→x≠n∧x<64:=fun x hx=>by
  have GI:hd (S1 i)∈S1 i:=du ai;rw[hx]at GI;have:=hr.gr GI;exact⟨fun e=>DZ i (e▸GI),ai⟩
 have AK:hd (S1 i)= -1∨∃a:Nat,hd (S1 i)=a:=by
  by_cases e:hd (S1 i)= -1
  ·exact .inl e
  ·have:=hr.gr (du e);exact .inr ⟨(hd (S1 i)).toNat,ai⟩
 have hlen:=hr.len i;have hE:=hr.ends i hi;have KU:0≤(E i).m∧(E i).m≤64:=by rw[hE];constructor<;>(try dsimp only)<;>omega
 have KV:(E i).f=hd (S1 i):=by rw[hE]
 rw[←KV]at AL AK;have Jr:=ae DB;have H1:=ae hm;have bw:=ae a8;have Mv:=ae AL;have sn:=ae AK;have My:=ae KU;have HM:=aH (0<m∧m≤40) (⟨Kq,DJ⟩);clear hm hr Kq DJ DB AL AK hlen hE KU KV a8;have hh:=H1.hd;have ce:aF W1 eb (i*3) ((E i).f):=H1.end_ (b:=i) (j:=0) hi av;have c0:aF W1 g (n*3) ((N n).l):=H1.node (b:=n) (j:=0) hn av;have c1:aF W1 g (n*3+1) ((N n).a):=H1.node (b:=n) (j:=1) hn av;have c2:aF W1 g (n*3+2) ((N n).b):=H1.node (b:=n) (j:=2) hn av;have f0:=H1.1.free (n*3);have f1:=H1.1.free (n*3+1);have f2:=H1.1.free (n*3+2);have F2:=ae<|tz N E i n;have wP:=ae<|tA E i n;have CN:=Ej E i n (E i).f;have GQ:=Ek E i n (E i).f;generalize hf:(E i).f=f at *;have HF:=ae hf;have Dh:=ae CN;have Pn:=ae GQ;clear hf CN GQ;go_upto_region 5 with fail;refine kb (fun w':World=>w'=W1.drew) 11 ?_ ?_
 ·rfl
 intro aX;refine eZ [0,1,2,3,4,5,6,7,8,9,10] ?_;refine jz ?_;clear aX;go_upto_region 6 with fail;have H2:=aH (fa (((W1.drew.setCell ⟨g,n*3,none⟩ (ah i)).setCell ⟨g,n*3+1,none⟩ (ah (-1))).setCell ⟨g,n*3+2,none⟩ (ah f)) g eb m (aD N n ⟨i,-1,f⟩) E) ((show fa W1.drew g eb m N E from H1).xM hn ⟨i,-1,f⟩);have bR:=aH (af (iu g eb) w (((W1.drew.setCell ⟨g,n*3,none⟩ (ah i)).setCell ⟨g,n*3+1,none⟩ (ah (-1))).setCell ⟨g,n*3+2,none⟩ (ah f))) (((bw.drew.setCell (p:=⟨g,n*3,none⟩) (.inl (.inl rfl)) (ah i)).setCell (p:=⟨g,n*3+1,none⟩) (.inl (.inl rfl)) (ah (-1))).setCell (p:=⟨g,n*3+2,none⟩) (.inl (.inl rfl)) (ah f));change Code.wp _ _ _ _ (((W1.drew.setCell ⟨g,n*3,none⟩ (ah i)).setCell ⟨g,n*3+1,none⟩ (ah (-1))).setCell ⟨g,n*3+2,none⟩ (ah f));clear hh ce c0 c1 c2 f0 f1 f2 H1 bw;generalize(((W1.drew.setCell ⟨g,n*3,none⟩ (ah i)).setCell ⟨g,n*3+1,none⟩ (ah (-1))).setCell ⟨g,n*3+2,none⟩ (ah f))=W2 at *;generalize aD N n ⟨i,-1,f⟩=N1 at *;have ce:aF W2 eb (i*3) f:=by
  have:=H2.end_ (b:=i) (j:=0) hi av;rw[←HF.out];exact this
 go_upto_if 37 with fail
 go_cut [] (fun wx=>fa wx g eb m (C6 N1 n f) (uh E i n f)∧af (iu g eb) W2 wx)
 case first=>
  have hf:=sn.out;have Ak:=Mv.out;clear sn Mv Dh Pn F2 wP HF;rcases hf with hf|⟨a,hf⟩
  ·subst hf;have e1:=aH (C6 N1 n (-1)=N1) (rfl);have e2:=aH (uh E i n (-1)=aW E i {E i with k:=n}) (rfl);have f1:=H2.2.free (i*3+1);have ck:aF W2 eb (i*3+1) ((E i).k):=H2.end_ (b:=i) (j:=1) hi av;clear Ak;go_wp2
   go_meet
   case rel=>
    refine⟨?_,af.setCell (p:=⟨eb,i*3+1,none⟩) (af.ak _ _) (.inl (.inr rfl)) _⟩;rw[e1.out,e2.out];exact H2.mM hi (j:=1) av _ _ fun k hk=>by
     rcases(show k=0∨k=1∨k=2 by omega)with rfl|rfl|rfl<;>rfl
  ·obtain⟨Oi,DO⟩:=Ak a hf;subst hf;have e:¬((a:Int)= -1):=ai;have e1:=aH (C6 N1 n a=aD N1 a {N1 a with a:=n}) (if_neg e);have e2:=aH (uh E i n a=E) (if_neg e);clear e Ak Oi;have f1:=H2.1.free (a*3+1);have Oj:(a:Int)<64:=ai;have ca:aF W2 g (a*3+1) ((N1 a).a):=H2.node (b:=a) (j:=1) DO av;go_upto_region 8 with fail;refine kb (fun w':World=>w'=W2.drew) 10 ?_ ?_
   ·rfl
   intro aX;refine eZ [0,1,2,3,4,5,6,7,8,9] ?_;refine jz ?_;clear aX;go_wp2
   go_meet
   case rel=>
    refine⟨?_,(af.setCell (p:=⟨g,a*3+1,none⟩) ((af.ak _ _).drew) (.inl (.inl rfl)) _)⟩;rw[e1.out,e2.out];exact(show fa W2.drew g eb m N1 E from H2).nU DO (j:=1) av _ _ fun k hk=>by
     rcases(show k=0∨k=1∨k=2 by omega)with rfl|rfl|rfl<;>rfl
 case rest=>
  obtain⟨h3,bQ⟩:=hcut;obtain⟨W3,e3⟩:∃W3,W3=wc:=⟨_,rfl⟩;subst e3;have b7:=ae<|bR.trans bQ;have H3:=ae h3;clear h3 bQ ce bR H2;generalize C6 N1 n f=N2 at *;generalize uh E i n f=E2 at *;have ce:aF W3 eb (i*3) ((E2 i).f):=H3.end_ (b:=i) (j:=0) hi av;have cm:aF W3 eb (i*3+2) ((E2 i).m):=H3.end_ (b:=i) (j:=2) hi av;have f0:=H3.2.free (i*3);have f2:=H3.2.free (i*3+2);have hm:=My.out;have hq:=Dh.out;rw[←hq]at hm;generalize w9:(E2 i).m=q at *;have Pu:=ae w9;have hw:IntKind.i64.wrap (q+1)=q+1:=by rw[IntKind.wrap_i64];omega
  clear hm hq w9 My;go_wp2;go_ret;refine⟨rfl,⟨_,_,?_,Jr,HM.1,HM.2⟩,(b7.setCell (p:=⟨eb,i*3,none⟩) (.inl (.inr rfl)) _).setCell (p:=⟨eb,i*3+2,none⟩) (.inl (.inr rfl)) _⟩;rw[F2.out,wP.out,←Dh.out];have s1:=H3.mM hi (j:=0) av (ah n) {E2 i with f:=n} fun k hk=>by
   rcases(show k=0∨k=1∨k=2 by omega)with rfl|rfl|rfl<;>rfl
  have s2:=s1.mM hi (j:=2) av (ah (q+1)) ⟨n,(E2 i).k,q+1⟩ fun k hk=>by
   exact dz
  rw[jK]at s2;exact s2
end
end Go.Proofs.YtpcfhbeakecihaaGreat

/- Lemmas. -/
import Derived.Test.YtchofaecncibjaaGreatM2
import Derived.Test.YtchofaecncibjaaGreatM3
import Derived.Test.YtchofaecncibjaaGreatM19
import Derived.Deep.DeepCutAuto
set_option linter.all false
set_option maxHeartbeats 20000000
set_option maxRecDepth 100000
namespace Go.Proofs.YtchofaecncibjaaGreat
open Go.ChangeShapes Go.RowKit Go.WideShapes
theorem uA:∀(n:Nat) (L:List Int),L.Nodup→(∀x∈L,0≤x∧x<n)→L.length≤n
 |0,L,_,h=>by
  cases L with
  |nil=>exact dT _
  |cons a L=>have:=h a (List.mem_cons_self ..);omega
 |n+1,L,hn,h=>by
  by_cases hm:(n:Int)∈L
  ·have h1:=uA n (L.erase n) (hn.erase _) fun x hx=>by
    have h2:=h x (List.mem_of_mem_erase hx);have h3:x≠n:=fun e=>(List.Nodup.not_mem_erase hn) (e▸hx)
    omega
   rw[List.length_erase_of_mem hm]at h1;omega
  ·have h1:=uA n L hn fun x hx=>by
    have h2:=h x hx;have h3:x≠n:=fun e=>hm (e▸hx)
    omega
   omega
theorem DE.len {m:Nat}{N:Int→Nd}{E:Nat→En}{S:Nat→List Int}(h:DE m N E S)(i:Nat):(S i).length≤64:=uA 64 _ (h.nodup i) fun _ hx=>h.kA hx
def nC (n:Nd):Array Value:=#[ah n.l,ah n.a,ah n.b]
theorem abB (n:Nd):(nC n).all (·.oneCell')=true:=by simp[nC,Value.oneCell']
def uZ (g eb:Nat):Nat→Prop:=fun k=>k=g∨k=eb
def X8 (N:Int→Nd)(b:Int):Int→Nd:=if(N b).a= -1 then N else aT N (N b).a {N (N b).a with b:=(N b).b}
def n2N (N:Int→Nd)(n:Nd):Int→Nd:=if n.b= -1 then N else aT N n.b {N n.b with a:=n.a}
def UI (E:Nat→En)(i:Nat)(n:Nd):Nat→En:=if n.a= -1 then aI E i {E i with f:=n.b} else E
def UH (E:Nat→En)(i:Nat)(n:Nd):Nat→En:=if n.b= -1 then aI E i {E i with k:=n.a} else E
theorem WX (N:Int→Nd)(b:Int):Kp N b=aT (n2N (X8 N b) (N b)) b {n2N (X8 N b) (N b) b with l:=-1}:=rfl
theorem WY (E:Nat→En)(i:Nat)(n:Nd):Ri E i n=aI (UH (UI E i n) i n) i {UH (UI E i n) i n i with m:=(E i).m - 1}:=by
 funext x
 unfold Ri UH UI aI
 split
 ·subst x
  split<;>split<;>simp_all [aI]
 ·split<;>split<;>simp_all [aI]
theorem ad2 (E:Nat→En)(i:Nat)(n:Nd):(UH (UI E i n) i n i).m=(E i).m:=by
 unfold UH UI aI
 split<;>split<;>simp_all [aI]
section
theorem WW {g eb m:Nat}{N:Int→Nd}{E:Nat→En}{i:Nat}{n:Nat}(w:World)(h:p6 w g eb m N E)(hn:n<64)(hi:i<m)(hl:(N n).l=i)
 (ha:(N n).a= -1∨∃a:Nat,a<64∧(N n).a=a) (hb:(N n).b= -1∨∃a:Nat,a<64∧(N n).b=a) (hm:0≤(E i).m∧(E i).m≤64):
 Calls Tryz.prog 149 #[aO g,ah n] w fun e w'=>e= .returned (.tuple #[])∧p6 w' g eb m (Kp N n) (Ri E i (N n))∧ag (uZ g eb) w w':=by
 have c0:aw w g (n*3) ((N n).l):=h.node (b:=n) (j:=0) hn aD;have c1:aw w g (n*3+1) ((N n).a):=h.node (b:=n) (j:=1) hn aD;have c2:aw w g (n*3+2) ((N n).b):=h.node (b:=n) (j:=2) hn aD;have H:=ae h;have UA:(n:Int)<64:=ao;have CQ:(i:Int)<m:=ao;clear h;generalize zB:N n=nd at *;have Vq:=ae zB;have HL:=ae hl;have HM:=ae hm;have HA:=ae ha;have HB:=ae hb;clear zB hl hm ha hb
 go_enter Tryz.func149,Tryz.ntmps149
 go_upto_region 1 with(refine fJ (nC nd) (Box.fresh w 190 #[ah 0,ah 0,ah 0]) (abB nd) ?_);have aR:ag az w ((w.alloc (.cells #[ah 0,ah 0,ah 0] 190)).setRow w.heap.size (nC nd)):=((ag.aj az w).alloc _).au (.inr (dm _)) _;have bU:=ae<|(Box.fresh w 190 #[ah 0,ah 0,ah 0]).au (nC nd);have Bg:=aB (w.heap.size≠g∧w.heap.size≠eb) (⟨fun e=>by have:=H.1.lt;omega,fun e=>by have:=H.2.lt;omega⟩);have H1:=ae<|H.aA aR id id;have aX:=ae<|aR.mono (S':=uZ g eb) fun _ h=>h.elim;change Code.wp _ _ _ _ ((w.alloc (.cells #[ah 0,ah 0,ah 0] 190)).setRow w.heap.size (nC nd));clear aR H c0 c1 c2;generalize(w.alloc (.cells #[ah 0,ah 0,ah 0] 190)).setRow w.heap.size (nC nd)=W1 at *;generalize w.heap.size=nb at *;obtain⟨l,a,b⟩:=nd;have hl:=HL.out;dsimp only at hl;subst hl;have b0:aw W1 nb 0 i:=bU.af rfl;have b1:aw W1 nb 1 a:=bU.af rfl;have b2:aw W1 nb 2 b:=bU.af rfl;have hh:=H1.hd;refine oa (fun w':World=>w'=W1.drew) 7 ?_ ?_
 ·rfl
 intro aH;refine bX [0,1,2,3,4,5,6] ?_;refine cG ?_;go_upto_region 2 with fail;have H2:=aB (p6 W1.drew g eb m N E) (H1);have cO:=aB (Box W1.drew nb 190 (nC ⟨i,a,b⟩)) (bU);have bf:=ae aX.drew;clear b0 b1 b2 hh H1 bU aX HL;generalize W1.drew=W2 at *;have b0:aw W2 nb 0 i:=cO.af rfl;have b1:aw W2 nb 1 a:=cO.af rfl;have b2:aw W2 nb 2 b:=cO.af rfl;go_upto_if 21 with fail
 go_cut [] (fun wx=>p6 wx g eb m (X8 N n) (UI E i ⟨i,a,b⟩)∧ag (uZ g eb) W2 wx)
 case first=>
  have ha:=HA.out;clear HA HB HM;rcases ha with ha|⟨a',ha',ha⟩
  ·dsimp only at ha;subst ha;have e1:=ae (show X8 N n=N by unfold X8;rw[Vq.out];rfl);have e2:=aB (UI E i ⟨i,-1,b⟩=aI E i {E i with f:=b}) (rfl);have f:=H2.2.free (i*3);have ce:aw W2 eb (i*3) ((E i).f):=H2.end_ (b:=i) (j:=0) hi aD;go_wp2
   go_meet
   case rel=>
    refine⟨?_,ag.setCell (p:=⟨eb,i*3,none⟩) (ag.aj _ _) (.inl (.inr rfl)) _⟩;rw[e1.out,e2.out];exact H2.E4 hi (j:=0) aD _ _ fun k hk=>by
     rcases(show k=0∨k=1∨k=2 by omega)with rfl|rfl|rfl<;>rfl
  ·dsimp only at ha;subst ha;have e:¬((a':Int)= -1):=ao;have e1:=ae (show X8 N n=aT N a' {N a' with b:=b} by unfold X8;rw[Vq.out];exact if_neg e);have e2:=aB (UI E i ⟨i,a',b⟩=E) (if_neg e);clear e;have f:=H2.1.free (a'*3+2);have hai:(a':Int)<64:=ao;have ca:aw W2 g (a'*3+2) ((N a').b):=H2.node (b:=a') (j:=2) ha' aD;go_upto_region 4 with fail;refine oa (fun w':World=>w'=W2.drew) 9 ?_ ?_
   ·rfl
   intro aH;refine bX [0,1,2,3,4,5,6,7,8] ?_;refine cG ?_;clear aH;go_wp2
   go_meet
   case rel=>
    refine⟨?_,(ag.setCell (p:=⟨g,a'*3+2,none⟩) ((ag.aj _ _).drew) (.inl (.inl rfl)) _)⟩;rw[e1.out,e2.out];exact(show p6 W2.drew g eb m N E from H2).GJ ha' (j:=2) aD _ _ fun k hk=>by
     rcases(show k=0∨k=1∨k=2 by omega)with rfl|rfl|rfl<;>rfl
 case rest=>
  obtain⟨h3,cB⟩:=hcut;obtain⟨W3,e3⟩:∃W3,W3=wc:=⟨_,rfl⟩;subst e3;have H3:=ae h3;have dM:=ae<|cB.aq cO (fun h=>h.elim Bg.1 Bg.2);have bn:=ae<|bf.trans cB;have HB:=HB;clear h3 cB b0 b1 b2 H2 bf cO;have HQN:=ae<|WX N n;have HQE:=ae<|WY E i ⟨i,a,b⟩;have hq:(UH (UI E i ⟨i,a,b⟩) i ⟨i,a,b⟩ i).m=(E i).m:=ad2 E i ⟨i,a,b⟩;rw[Vq.out]at HQN;generalize X8 N n=N1 at *;generalize UI E i ⟨i,a,b⟩=E1 at *;have HQM:=ae hq;clear hq;have b0:aw W3 nb 0 i:=dM.af rfl;have b1:aw W3 nb 1 a:=dM.af rfl;have b2:aw W3 nb 2 b:=dM.af rfl;go_upto_if 38 with fail
  go_cut [] (fun wx=>p6 wx g eb m (n2N N1 ⟨i,a,b⟩) (UH E1 i ⟨i,a,b⟩)∧ag (uZ g eb) W3 wx)
  case first=>
   have hb:=HB.out;clear HA HB HM HQN HQE HQM;rcases hb with hb|⟨b',vC,hb⟩
   ·dsimp only at hb;subst hb;have e1:=aB (n2N N1 ⟨i,a,-1⟩=N1) (rfl);have e2:=aB (UH E1 i ⟨i,a,-1⟩=aI E1 i {E1 i with k:=a}) (rfl);have f:=H3.2.free (i*3+1);have ce:aw W3 eb (i*3+1) ((E1 i).k):=H3.end_ (b:=i) (j:=1) hi aD;go_wp2
    go_meet
    case rel=>
     refine⟨?_,ag.setCell (p:=⟨eb,i*3+1,none⟩) (ag.aj _ _) (.inl (.inr rfl)) _⟩;rw[e1.out,e2.out];exact H3.E4 hi (j:=1) aD _ _ fun k hk=>by
      rcases(show k=0∨k=1∨k=2 by omega)with rfl|rfl|rfl<;>rfl
   ·dsimp only at hb;subst hb;have e:¬((b':Int)= -1):=ao;have e1:=aB (n2N N1 ⟨i,a,b'⟩=aT N1 b' {N1 b' with a:=a}) (if_neg e);have e2:=aB (UH E1 i ⟨i,a,b'⟩=E1) (if_neg e);clear e;have f:=H3.1.free (b'*3+1);have UE:(b':Int)<64:=ao;have ca:aw W3 g (b'*3+1) ((N1 b').a):=H3.node (b:=b') (j:=1) vC aD;go_upto_region 7 with fail;refine oa (fun w':World=>w'=W3.drew) 9 ?_ ?_
    ·rfl
    intro aH;refine bX [0,1,2,3,4,5,6,7,8] ?_;refine cG ?_;clear aH;go_wp2
    go_meet
    case rel=>
     refine⟨?_,(ag.setCell (p:=⟨g,b'*3+1,none⟩) ((ag.aj _ _).drew) (.inl (.inl rfl)) _)⟩;rw[e1.out,e2.out];exact(show p6 W3.drew g eb m N1 E1 from H3).GJ vC (j:=1) aD _ _ fun k hk=>by
      rcases(show k=0∨k=1∨k=2 by omega)with rfl|rfl|rfl<;>rfl
  case rest=>
   obtain⟨h4,cI⟩:=hcut;clear b0 b1 b2 dM H3;have bK:=ae<|bn.trans cI;clear bn cI;obtain⟨W4,e4⟩:∃W4,W4=wc:=⟨_,rfl⟩;subst e4;generalize n2N N1 ⟨i,a,b⟩=N2 at *;generalize UH E1 i ⟨i,a,b⟩=E2 at *;have H4:=ae h4;clear h4;have hm:=HM.out;rw[←HQM.out]at hm;have ce:=H4.end_ (b:=i) (j:=2) hi aD
   replace ce:aw W4 eb (i*3+2) ((E2 i).m):=ce
   have cn:aw W4 g (n*3) ((N2 n).l):=H4.node (b:=n) (j:=0) hn aD;have f1:=H4.2.free (i*3+2);have f2:=H4.1.free (n*3);have hq:=HQM.out;generalize JM:(E2 i).m=q at *;have HMM:=ae JM;have hw:IntKind.i64.wrap (q - 1)=q - 1:=by rw[IntKind.wrap_i64];omega
   have nz:=ae hm;have hge:eb≠g:=fun e=>H4.ne e.symm
   have agP:g≠eb:=H4.ne;clear JM hm hq HA HB;go_wp2
   go_end0
   refine⟨rfl,?_,(bK.setCell (p:=⟨eb,i*3+2,none⟩) (.inl (.inr rfl)) _).setCell (p:=⟨g,n*3,none⟩) (.inl (.inl rfl)) _⟩;rw[HQN.out,HQE.out,←HQM.out];have s1:=H4.E4 hi (j:=2) aD (ah (q - 1)) {E2 i with m:=q - 1} fun k hk=>by
    rcases(show k=0∨k=1∨k=2 by omega)with rfl|rfl|rfl<;>rfl
   exact s1.GJ hn (j:=0) aD (ah (-1)) {N2 n with l:=-1} fun k hk=>by
    rcases(show k=0∨k=1∨k=2 by omega)with rfl|rfl|rfl<;>rfl
def dh (S:Nat→List Int)(b:Int):Nat→List Int:=fun j=>(S j).erase b
theorem DE.rem_in {m:Nat}{N:Int→Nd}{E:Nat→En}{S:Nat→List Int}(h:DE m N E S){i:Nat}{b:Int}(hb:b∈S i):Dc S i b=dh S b:=by
 funext j
 unfold Dc dh aI
 split
 ·rename_i e;rw[e]
 ·rename_i e
  exact(List.erase_of_not_mem fun h2=>e (h.dj h2 hb)).symm
theorem KR {S:Nat→List Int}{b:Int}(hb:∀i,b∉S i):dh S b=S:=funext fun j=>List.erase_of_not_mem (hb j)
theorem DE.node {m:Nat}{N:Int→Nd}{E:Nat→En}{S:Nat→List Int}(h:DE m N E S){i:Nat}{b:Int}(hb:b∈S i):
 ((N b).a= -1∨∃a:Nat,a<64∧(N b).a=a)∧((N b).b= -1∨∃a:Nat,a<64∧(N b).b=a):=by
 have key:∀x:Int,x∈S i→∃a:Nat,a<64∧x=a:=fun x hx=>by
  obtain⟨h1,h2⟩:=h.kA hx;exact⟨x.toNat,ao,ao⟩
 rw[h.Mi hb];exact⟨(KU (S i) b (h.kA hb).1).imp id fun h2=>key _ h2,(Fh (S i) b).imp id fun h2=>key _ h2⟩
theorem jV.SK {g eb m:Nat}{S:Nat→List Int}{i n:Nat}{w:World}(h:jV w g eb m S)(hb:(n:Int)∈S i):
 Calls Tryz.prog 149 #[aO g,ah n] w fun e w'=>e= .returned (.tuple #[])∧jV w' g eb m (dh S n)∧ag (uZ g eb) w w':=by
 obtain⟨N,E,hm,hr,h1,h2⟩:=h;have hn:=(hr.kA hb).2;have hi:=hr.lt hb;obtain⟨ha,vC⟩:=hr.node hb;have hlen:=hr.len i;refine(WW w hm ao hi (by rw[hr.Mi hb]) ha vC (by rw[hr.ends i hi];constructor<;>(try dsimp only)<;>omega)).mono fun e w' ⟨h3,h4,h5⟩=>⟨h3,⟨_,_,h4,?_,h1,h2⟩,h5⟩
 rw[←hr.rem_in hb];exact hr.outs hb
theorem IE {g eb m:Nat}{S:Nat→List Int}{i:Nat}{w:World}(h:jV w g eb m S)(hi:i<m):Calls Tryz.prog 147 #[aO g,ah i] w fun e w'=>e= .returned (.bool true)∧w=w':=by
 have:=xO (i:Int) w h;rwa [show(decide (0≤(i:Int))&&decide ((i:Int)<m))=true by simp;omega]at this
theorem Ev (g:Nat){n:Nat}(w:World)(hn:n<64):Calls Tryz.prog 148 #[aO g,ah n] w fun e w'=>e= .returned (.bool true)∧w=w':=by
 have:=Ew g n w;rwa [show(decide (0≤(n:Int))&&decide ((n:Int)<64))=true by simp;omega]at this
theorem Ts {g eb m:Nat}{S:Nat→List Int}{i n:Nat}(w:World)(h:jV w g eb m S)(hi:i<m)(hn:n<64):
 Calls Tryz.prog 127 #[aO g,ah i,ah n] w fun e w'=>e= .returned (ah 0)∧jV w' g eb m (dh S n)∧ag (uZ g eb) w w':=by
 have UA:(n:Int)<64:=ao;have CQ:(i:Int)<m:=ao
 by_cases hb:∃k,(n:Int)∈S k
 ·obtain⟨k,hb⟩:=hb;have HC:=ae<|h.SK hb;have HLI:=ae<|IE h hi;have Km:=ae<|Ev g w hn;obtain⟨N,E,hm,hr,_⟩:=h;have hc:aw w g (n*3) ((N n).l):=hm.node (b:=n) (j:=0) hn aD;rw[hr.Mi hb]at hc;have hh:=hm.hd;dsimp only at hc;clear hm hr hb
  go_enter Tryz.func127,Tryz.ntmps127
  go_wp2_with (first|(go_at_call 149;refine HC.mono ?_;rintro e W1 ⟨rfl,h1,aR⟩)|(go_at_call 147;refine HLI.mono ?_;rintro e W0 ⟨rfl,rfl⟩)|(go_at_call 148;refine Km.mono ?_;rintro e W0 ⟨rfl,rfl⟩));go_ret;exact⟨rfl,h1,aR⟩
 ·have hb:∀k,(n:Int)∉S k:=fun k hk=>hb ⟨k,hk⟩
  rw[KR hb];have H:=ae h;obtain⟨N,E,hm,hr,_⟩:=h;have hc:aw w g (n*3) ((N n).l):=hm.node (b:=n) (j:=0) hn aD;rw[hr.no ao ao hb]at hc;have hh:=hm.hd;clear hm hr hb
  go_enter Tryz.func127,Tryz.ntmps127
  go_wp2;go_ret;exact⟨rfl,H,ag.aj _ _⟩
theorem kP {g eb m:Nat}{S:Nat→List Int}{i n:Nat}(w:World)(h:jV w g eb m S)(hb:(n:Int)∈S i):
 Calls Tryz.prog 130 #[aO g,ah n] w fun e w'=>e= .returned (ah 0)∧jV w' g eb m (dh S n)∧ag (uZ g eb) w w':=by
 have HC:=ae<|h.SK hb;obtain⟨N,E,hm,hr,_⟩:=h;have hn:=(hr.kA hb).2;have Km:=ae<|Ev g (n:=n) w ao;have hc:aw w g (n*3) ((N n).l):=hm.node (b:=n) (j:=0) ao aD;rw[hr.Mi hb]at hc;dsimp only at hc;clear hm hr hb
 go_enter Tryz.func130,Tryz.ntmps130
 go_wp2_with (first|(go_at_call 149;refine HC.mono ?_;rintro e W1 ⟨rfl,h1,aR⟩)|(go_at_call 148;refine Km.mono ?_;rintro e W0 ⟨rfl,rfl⟩));go_ret;exact⟨rfl,h1,aR⟩
end
theorem DV {α:Type}(f:Int→α)(k:Int)(u v:α):aT (aT f k u) k v=aT f k v:=by
 funext x
 unfold aT
 split<;>rfl
theorem yW {α:Type}(f:Nat→α)(k:Nat)(u v:α):aI (aI f k u) k v=aI f k v:=by
 funext x
 unfold aI
 split<;>rfl
theorem DW {α:Type}(f:Int→α)(k:Int)(u:α):aT f k u k=u:=by simp[aT]
theorem Om {α:Type}(f:Nat→α)(k:Nat)(u:α):aI f k u k=u:=by simp[aI]
def f2N (N:Int→Nd)(n f:Int):Int→Nd:=if f= -1 then N else aT N f {N f with a:=n}
def Q2 (E:Nat→En)(i:Nat)(n f:Int):Nat→En:=if f= -1 then aI E i {E i with k:=n} else E
theorem PA (N:Int→Nd)(E:Nat→En)(i:Nat)(n:Int):Fm N E i n=f2N (aT N n ⟨i,-1,(E i).f⟩) n (E i).f:=rfl
theorem PB (E:Nat→En)(i:Nat)(n:Int):Fo E i n=aI (Q2 E i n (E i).f) i ⟨n,(Q2 E i n (E i).f i).k,(E i).m+1⟩:=by
 funext x
 unfold Fo Q2 aI
 split
 ·split<;>simp_all [aI]
 ·split<;>simp_all [aI]
theorem ad0 (E:Nat→En)(i:Nat)(n f:Int):(Q2 E i n f i).m=(E i).m:=by
 unfold Q2 aI
 split<;>simp_all
theorem ad1 (E:Nat→En)(i:Nat)(n f:Int):(Q2 E i n f i).f=(E i).f:=by
 unfold Q2 aI
 split<;>simp_all
section
theorem p6.Wv {w:World}{g eb m:Nat}{N:Int→Nd}{E:Nat→En}(h:p6 w g eb m N E){b:Nat}(hb:b<64)(n:Nd):
 p6 (((w.setCell ⟨g,b*3,none⟩ (ah n.l)).setCell ⟨g,b*3+1,none⟩ (ah n.a)).setCell ⟨g,b*3+2,none⟩ (ah n.b)) g eb m (aT N b n) E:=by
 have s1:=h.GJ hb (j:=0) aD (ah n.l) {N b with l:=n.l} fun k hk=>by
  rcases(show k=0∨k=1∨k=2 by omega)with rfl|rfl|rfl<;>rfl
 have s2:=s1.GJ hb (j:=1) aD (ah n.a) {N b with l:=n.l,a:=n.a} fun k hk=>by
  rw[DW];rcases(show k=0∨k=1∨k=2 by omega)with rfl|rfl|rfl<;>rfl
 have s3:=s2.GJ hb (j:=2) aD (ah n.b) n fun k hk=>by
  rw[DW];rcases(show k=0∨k=1∨k=2 by omega)with rfl|rfl|rfl<;>rfl
 rw[DV,DV]at s3;exact s3
theorem me{P:Prop}(h:P:=by
 rw[Om];rcases(show k=0∨k=1∨k=2 by omega)with rfl|rfl|rfl<;>rfl):P:=h
theorem kq {g eb m:Nat}{S:Nat→List Int}{i n:Nat}(w:World)(h:jV w g eb m S)(hi:i<m)(hn:n<64):
 Calls Tryz.prog 105 #[aO g,ah i,ah n] w fun e w'=>e= .returned (ah 0)∧jV w' g eb m (bD (dh S n) i n)∧ag (uZ g eb) w w':=by
 have UA:(n:Int)<64:=ao;have CQ:(i:Int)<m:=ao;have HR:=ae<|Ts w h hi hn;have VI:∀j,(n:Int)∉dh S n j:=by
  obtain⟨N,E,hm,hr,_⟩:=h;exact fun j=>List.Nodup.not_mem_erase (hr.nodup j)
 generalize dh S n=S1 at *;have adn:=ae VI;clear h VI
 go_enter Tryz.func105,Tryz.ntmps105
 go_upto_region 4 with(go_at_call 127;refine HR.mono ?_;rintro e W1 ⟨rfl,h1,aR⟩);clear HR;obtain⟨N,E,hm,hr,hm0,acI⟩:=h1;have nJ:=hr.abP hi ao UA adn;have aaA:∀x:Nat,hd (S1 i)=x→x≠n∧x<64:=fun x hx=>by
  have hxm:hd (S1 i)∈S1 i:=lR ao;rw[hx]at hxm;have:=hr.kA hxm;exact⟨fun e=>adn i (e▸hxm),ao⟩
 have aaz:hd (S1 i)= -1∨∃a:Nat,hd (S1 i)=a:=by
  by_cases e:hd (S1 i)= -1
  ·exact .inl e
  ·have:=hr.kA (lR e);exact .inr ⟨(hd (S1 i)).toNat,ao⟩
 have hlen:=hr.len i;have hE:=hr.ends i hi;have hEm:0≤(E i).m∧(E i).m≤64:=by rw[hE];constructor<;>(try dsimp only)<;>omega
 have hEf:(E i).f=hd (S1 i):=by rw[hE]
 rw[←hEf]at aaA aaz;have Bq:=ae nJ;have H1:=ae hm;have aX:=ae aR;have kH:=ae aaA;have NX:=ae aaz;have HEM:=ae hEm;have HM:=aB (0<m∧m≤40) (⟨hm0,acI⟩);clear hm hr hm0 acI nJ aaA aaz hlen hE hEm hEf aR;have hh:=H1.hd;have ce:aw W1 eb (i*3) ((E i).f):=H1.end_ (b:=i) (j:=0) hi aD;have c0:aw W1 g (n*3) ((N n).l):=H1.node (b:=n) (j:=0) hn aD;have c1:aw W1 g (n*3+1) ((N n).a):=H1.node (b:=n) (j:=1) hn aD;have c2:aw W1 g (n*3+2) ((N n).b):=H1.node (b:=n) (j:=2) hn aD;have f0:=H1.1.free (n*3);have f1:=H1.1.free (n*3+1);have f2:=H1.1.free (n*3+2);have HFQ:=ae<|PA N E i n;have vf:=ae<|PB E i n;have hq1:=ad0 E i n (E i).f;have hq2:=ad1 E i n (E i).f;generalize hf:(E i).f=f at *;have HF:=ae hf;have Gb:=ae hq1;have NT:=ae hq2;clear hf hq1 hq2;go_upto_region 5 with fail;refine oa (fun w':World=>w'=W1.drew) 11 ?_ ?_
 ·rfl
 intro aH;refine bX [0,1,2,3,4,5,6,7,8,9,10] ?_;refine cG ?_;clear aH;go_upto_region 6 with fail;have H2:=aB (p6 (((W1.drew.setCell ⟨g,n*3,none⟩ (ah i)).setCell ⟨g,n*3+1,none⟩ (ah (-1))).setCell ⟨g,n*3+2,none⟩ (ah f)) g eb m (aT N n ⟨i,-1,f⟩) E) ((show p6 W1.drew g eb m N E from H1).Wv hn ⟨i,-1,f⟩);have bf:=aB (ag (uZ g eb) w (((W1.drew.setCell ⟨g,n*3,none⟩ (ah i)).setCell ⟨g,n*3+1,none⟩ (ah (-1))).setCell ⟨g,n*3+2,none⟩ (ah f))) (((aX.drew.setCell (p:=⟨g,n*3,none⟩) (.inl (.inl rfl)) (ah i)).setCell (p:=⟨g,n*3+1,none⟩) (.inl (.inl rfl)) (ah (-1))).setCell (p:=⟨g,n*3+2,none⟩) (.inl (.inl rfl)) (ah f));change Code.wp _ _ _ _ (((W1.drew.setCell ⟨g,n*3,none⟩ (ah i)).setCell ⟨g,n*3+1,none⟩ (ah (-1))).setCell ⟨g,n*3+2,none⟩ (ah f));clear hh ce c0 c1 c2 f0 f1 f2 H1 aX;generalize(((W1.drew.setCell ⟨g,n*3,none⟩ (ah i)).setCell ⟨g,n*3+1,none⟩ (ah (-1))).setCell ⟨g,n*3+2,none⟩ (ah f))=W2 at *;generalize aT N n ⟨i,-1,f⟩=N1 at *;have ce:aw W2 eb (i*3) f:=by
  have:=H2.end_ (b:=i) (j:=0) hi aD;rw[←HF.out];exact this
 go_upto_if 37 with fail
 go_cut [] (fun wx=>p6 wx g eb m (f2N N1 n f) (Q2 E i n f)∧ag (uZ g eb) W2 wx)
 case first=>
  have hf:=NX.out;have U8:=kH.out;clear NX kH Gb NT HFQ vf HF;rcases hf with hf|⟨a,hf⟩
  ·subst hf;have e1:=aB (f2N N1 n (-1)=N1) (rfl);have e2:=aB (Q2 E i n (-1)=aI E i {E i with k:=n}) (rfl);have f1:=H2.2.free (i*3+1);have ck:aw W2 eb (i*3+1) ((E i).k):=H2.end_ (b:=i) (j:=1) hi aD;clear U8;go_wp2
   go_meet
   case rel=>
    refine⟨?_,ag.setCell (p:=⟨eb,i*3+1,none⟩) (ag.aj _ _) (.inl (.inr rfl)) _⟩;rw[e1.out,e2.out];exact H2.E4 hi (j:=1) aD _ _ fun k hk=>by
     rcases(show k=0∨k=1∨k=2 by omega)with rfl|rfl|rfl<;>rfl
  ·obtain⟨han,ac3⟩:=U8 a hf;subst hf;have e:¬((a:Int)= -1):=ao;have e1:=aB (f2N N1 n a=aT N1 a {N1 a with a:=n}) (if_neg e);have e2:=aB (Q2 E i n a=E) (if_neg e);clear e U8 han;have f1:=H2.1.free (a*3+1);have hai:(a:Int)<64:=ao;have ca:aw W2 g (a*3+1) ((N1 a).a):=H2.node (b:=a) (j:=1) ac3 aD;go_upto_region 8 with fail;refine oa (fun w':World=>w'=W2.drew) 10 ?_ ?_
   ·rfl
   intro aH;refine bX [0,1,2,3,4,5,6,7,8,9] ?_;refine cG ?_;clear aH;go_wp2
   go_meet
   case rel=>
    refine⟨?_,(ag.setCell (p:=⟨g,a*3+1,none⟩) ((ag.aj _ _).drew) (.inl (.inl rfl)) _)⟩;rw[e1.out,e2.out];exact(show p6 W2.drew g eb m N1 E from H2).GJ ac3 (j:=1) aD _ _ fun k hk=>by
     rcases(show k=0∨k=1∨k=2 by omega)with rfl|rfl|rfl<;>rfl
 case rest=>
  obtain⟨h3,cB⟩:=hcut;obtain⟨W3,e3⟩:∃W3,W3=wc:=⟨_,rfl⟩;subst e3;have bn:=ae<|bf.trans cB;have H3:=ae h3;clear h3 cB ce bf H2;generalize f2N N1 n f=N2 at *;generalize Q2 E i n f=E2 at *;have ce:aw W3 eb (i*3) ((E2 i).f):=H3.end_ (b:=i) (j:=0) hi aD;have cm:aw W3 eb (i*3+2) ((E2 i).m):=H3.end_ (b:=i) (j:=2) hi aD;have f0:=H3.2.free (i*3);have f2:=H3.2.free (i*3+2);have hm:=HEM.out;have hq:=Gb.out;rw[←hq]at hm;generalize JM:(E2 i).m=q at *;have HMM:=ae JM;have hw:IntKind.i64.wrap (q+1)=q+1:=by rw[IntKind.wrap_i64];omega
  clear hm hq JM HEM;go_wp2;go_ret;refine⟨rfl,⟨_,_,?_,Bq,HM.1,HM.2⟩,(bn.setCell (p:=⟨eb,i*3,none⟩) (.inl (.inr rfl)) _).setCell (p:=⟨eb,i*3+2,none⟩) (.inl (.inr rfl)) _⟩;rw[HFQ.out,vf.out,←Gb.out];have s1:=H3.E4 hi (j:=0) aD (ah n) {E2 i with f:=n} fun k hk=>by
   rcases(show k=0∨k=1∨k=2 by omega)with rfl|rfl|rfl<;>rfl
  have s2:=s1.E4 hi (j:=2) aD (ah (q+1)) ⟨n,(E2 i).k,q+1⟩ fun k hk=>by
   exact me
  rw[yW]at s2;exact s2
end
end Go.Proofs.YtchofaecncibjaaGreat

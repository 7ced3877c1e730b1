/- Lemmas. -/
import Derived.Test.YtpcfhbeakecihaaGreatM2
import Derived.Test.YtpcfhbeakecihaaGreatM3
import Derived.Test.YtpcfhbeakecihaaGreatM18
import Derived.Deep.DeepCutAuto
set_option linter.all false
set_option maxHeartbeats 20000000
set_option maxRecDepth 100000
namespace Go.Proofs.YtpcfhbeakecihaaGreat
open Go.ChangeShapes Go.RowKit Go.WideShapes
theorem qG:∀(n:Nat) (L:List Int),L.Nodup→(∀x∈L,0≤x∧x<n)→L.length≤n
 |0,L,_,h=>by
  cases L with
  |nil=>exact fH _
  |cons a L=>have:=h a (List.mem_cons_self ..);omega
 |n+1,L,hn,h=>by
  by_cases hm:(n:Int)∈L
  ·have h1:=qG n (L.erase n) (hn.erase _) fun x hx=>by
    have h2:=h x (List.mem_of_mem_erase hx);have h3:x≠n:=fun e=>(List.Nodup.not_mem_erase hn) (e▸hx)
    omega
   rw[List.length_erase_of_mem hm]at h1;omega
  ·have h1:=qG n L hn fun x hx=>by
    have h2:=h x hx;have h3:x≠n:=fun e=>hm (e▸hx)
    omega
   omega
theorem xD.len {m:Nat}{N:Int→Nd}{E:Nat→En}{S:Nat→List Int}(h:xD m N E S)(i:Nat):(S i).length≤64:=qG 64 _ (h.nodup i) fun _ hx=>h.lC hx
def nC (n:Nd):Array Value:=#[ah n.l,ah n.a,ah n.b]
theorem TC (n:Nd):(nC n).all (·.oneCell')=true:=by simp[nC,Value.oneCell']
def ra (g eb:Nat):Nat→Prop:=fun k=>k=g∨k=eb
def QE (N:Int→Nd)(b:Int):Int→Nd:=if(N b).a= -1 then N else aV N (N b).a {N (N b).a with b:=(N b).b}
def UB (N:Int→Nd)(n:Nd):Int→Nd:=if n.b= -1 then N else aV N n.b {N n.b with a:=n.a}
def M7 (E:Nat→En)(i:Nat)(n:Nd):Nat→En:=if n.a= -1 then ba E i {E i with f:=n.b} else E
def M6 (E:Nat→En)(i:Nat)(n:Nd):Nat→En:=if n.b= -1 then ba E i {E i with k:=n.a} else E
theorem Pr (N:Int→Nd)(b:Int):Du N b=aV (UB (QE N b) (N b)) b {UB (QE N b) (N b) b with l:=-1}:=rfl
theorem Ps (E:Nat→En)(i:Nat)(n:Nd):Ko E i n=ba (M6 (M7 E i n) i n) i {M6 (M7 E i n) i n i with m:=(E i).m - 1}:=by
 funext x
 unfold Ko M6 M7 ba
 split
 ·subst x
  split<;>split<;>simp_all [ba]
 ·split<;>split<;>simp_all [ba]
theorem Ze (E:Nat→En)(i:Nat)(n:Nd):(M6 (M7 E i n) i n i).m=(E i).m:=by
 unfold M6 M7 ba
 split<;>split<;>simp_all [ba]
section
theorem Pq {g eb m:Nat}{N:Int→Nd}{E:Nat→En}{i:Nat}{n:Nat}(w:World)(h:mJ w g eb m N E)(hn:n<64)(hi:i<m)(hl:(N n).l=i)
 (ha:(N n).a= -1∨∃a:Nat,a<64∧(N n).a=a) (hb:(N n).b= -1∨∃a:Nat,a<64∧(N n).b=a) (hm:0≤(E i).m∧(E i).m≤64):
 Calls Tryz.prog 195 #[aO g,ah n] w fun e w'=>e= .returned (.tuple #[])∧mJ w' g eb m (Du N n) (Ko E i (N n))∧af (ra g eb) w w':=by
 have c0:aF w g (n*3) ((N n).l):=h.node (b:=n) (j:=0) hn aE;have c1:aF w g (n*3+1) ((N n).a):=h.node (b:=n) (j:=1) hn aE;have c2:aF w g (n*3+2) ((N n).b):=h.node (b:=n) (j:=2) hn aE;have H:=ae h;have R5:(n:Int)<64:=aj;have uD:(i:Int)<m:=aj;clear h;generalize Gg:N n=nd at *;have NW:=ae Gg;have HL:=ae hl;have HM:=ae hm;have HA:=ae ha;have HB:=ae hb;clear Gg hl hm ha hb
 go_enter Tryz.func195,Tryz.ntmps195
 go_upto_region 1 with(refine iP (nC nd) (Box.fresh w 224 #[ah 0,ah 0,ah 0]) (TC nd) ?_);have aK:af au w ((w.alloc (.cells #[ah 0,ah 0,ah 0] 224)).setRow w.heap.size (nC nd)):=((af.ai au w).alloc _).aw (.inr (dX _)) _;have b8:=ae<|(Box.fresh w 224 #[ah 0,ah 0,ah 0]).aw (nC nd);have JK:=aq (w.heap.size≠g∧w.heap.size≠eb) (⟨fun e=>by have:=H.1.lt;omega,fun e=>by have:=H.2.lt;omega⟩);have H1:=ae<|H.ar aK id id;have bc:=ae<|aK.mono (S':=ra g eb) fun _ h=>h.elim;change Code.wp _ _ _ _ ((w.alloc (.cells #[ah 0,ah 0,ah 0] 224)).setRow w.heap.size (nC nd));clear aK H c0 c1 c2;generalize(w.alloc (.cells #[ah 0,ah 0,ah 0] 224)).setRow w.heap.size (nC nd)=W1 at *;generalize w.heap.size=nb at *;obtain⟨l,a,b⟩:=nd;have hl:=HL.out;dsimp only at hl;subst hl;have b0:aF W1 nb 0 i:=b8.ag rfl;have b1:aF W1 nb 1 a:=b8.ag rfl;have b2:aF W1 nb 2 b:=b8.ag rfl;have hh:=H1.hd;refine gg (fun w':World=>w'=W1.drew) 7 ?_ ?_
 ·rfl
 intro aC;refine bE [0,1,2,3,4,5,6] ?_;refine dE ?_;go_upto_region 2 with fail;have H2:=aq (mJ W1.drew g eb m N E) (H1);have dG:=aq (Box W1.drew nb 224 (nC ⟨i,a,b⟩)) (b8);have bu:=ae bc.drew;clear b0 b1 b2 hh H1 b8 bc HL;generalize W1.drew=W2 at *;have b0:aF W2 nb 0 i:=dG.ag rfl;have b1:aF W2 nb 1 a:=dG.ag rfl;have b2:aF W2 nb 2 b:=dG.ag rfl;go_upto_if 21 with fail
 go_cut [] (fun wx=>mJ wx g eb m (QE N n) (M7 E i ⟨i,a,b⟩)∧af (ra g eb) W2 wx)
 case first=>
  have ha:=HA.out;clear HA HB HM;rcases ha with ha|⟨a',ha',ha⟩
  ·dsimp only at ha;subst ha;have e1:=ae (show QE N n=N by unfold QE;rw[NW.out];rfl);have e2:=aq (M7 E i ⟨i,-1,b⟩=ba E i {E i with f:=b}) (rfl);have f:=H2.2.free (i*3);have ce:aF W2 eb (i*3) ((E i).f):=H2.end_ (b:=i) (j:=0) hi aE;go_wp2
   go_meet
   case rel=>
    refine⟨?_,af.setCell (p:=⟨eb,i*3,none⟩) (af.ai _ _) (.inl (.inr rfl)) _⟩;rw[e1.out,e2.out];exact H2.yZ hi (j:=0) aE _ _ fun k hk=>by
     rcases(show k=0∨k=1∨k=2 by omega)with rfl|rfl|rfl<;>rfl
  ·dsimp only at ha;subst ha;have e:¬((a':Int)= -1):=aj;have e1:=ae (show QE N n=aV N a' {N a' with b:=b} by unfold QE;rw[NW.out];exact if_neg e);have e2:=aq (M7 E i ⟨i,a',b⟩=E) (if_neg e);clear e;have f:=H2.1.free (a'*3+2);have hai:(a':Int)<64:=aj;have ca:aF W2 g (a'*3+2) ((N a').b):=H2.node (b:=a') (j:=2) ha' aE;go_upto_region 4 with fail;refine gg (fun w':World=>w'=W2.drew) 9 ?_ ?_
   ·rfl
   intro aC;refine bE [0,1,2,3,4,5,6,7,8] ?_;refine dE ?_;clear aC;go_wp2
   go_meet
   case rel=>
    refine⟨?_,(af.setCell (p:=⟨g,a'*3+2,none⟩) ((af.ai _ _).drew) (.inl (.inl rfl)) _)⟩;rw[e1.out,e2.out];exact(show mJ W2.drew g eb m N E from H2).Bh ha' (j:=2) aE _ _ fun k hk=>by
     rcases(show k=0∨k=1∨k=2 by omega)with rfl|rfl|rfl<;>rfl
 case rest=>
  obtain⟨h3,bV⟩:=hcut;obtain⟨W3,e3⟩:∃W3,W3=wc:=⟨_,rfl⟩;subst e3;have H3:=ae h3;have hG:=ae<|bV.ak dG (fun h=>h.elim JK.1 JK.2);have bI:=ae<|bu.trans bV;have HB:=HB;clear h3 bV b0 b1 b2 H2 bu dG;have Xj:=ae<|Pr N n;have HQE:=ae<|Ps E i ⟨i,a,b⟩;have hq:(M6 (M7 E i ⟨i,a,b⟩) i ⟨i,a,b⟩ i).m=(E i).m:=Ze E i ⟨i,a,b⟩;rw[NW.out]at Xj;generalize QE N n=N1 at *;generalize M7 E i ⟨i,a,b⟩=E1 at *;have HQM:=ae hq;clear hq;have b0:aF W3 nb 0 i:=hG.ag rfl;have b1:aF W3 nb 1 a:=hG.ag rfl;have b2:aF W3 nb 2 b:=hG.ag rfl;go_upto_if 38 with fail
  go_cut [] (fun wx=>mJ wx g eb m (UB N1 ⟨i,a,b⟩) (M6 E1 i ⟨i,a,b⟩)∧af (ra g eb) W3 wx)
  case first=>
   have hb:=HB.out;clear HA HB HM Xj HQE HQM;rcases hb with hb|⟨b',ry,hb⟩
   ·dsimp only at hb;subst hb;have e1:=aq (UB N1 ⟨i,a,-1⟩=N1) (rfl);have e2:=aq (M6 E1 i ⟨i,a,-1⟩=ba E1 i {E1 i with k:=a}) (rfl);have f:=H3.2.free (i*3+1);have ce:aF W3 eb (i*3+1) ((E1 i).k):=H3.end_ (b:=i) (j:=1) hi aE;go_wp2
    go_meet
    case rel=>
     refine⟨?_,af.setCell (p:=⟨eb,i*3+1,none⟩) (af.ai _ _) (.inl (.inr rfl)) _⟩;rw[e1.out,e2.out];exact H3.yZ hi (j:=1) aE _ _ fun k hk=>by
      rcases(show k=0∨k=1∨k=2 by omega)with rfl|rfl|rfl<;>rfl
   ·dsimp only at hb;subst hb;have e:¬((b':Int)= -1):=aj;have e1:=aq (UB N1 ⟨i,a,b'⟩=aV N1 b' {N1 b' with a:=a}) (if_neg e);have e2:=aq (M6 E1 i ⟨i,a,b'⟩=E1) (if_neg e);clear e;have f:=H3.1.free (b'*3+1);have M4:(b':Int)<64:=aj;have ca:aF W3 g (b'*3+1) ((N1 b').a):=H3.node (b:=b') (j:=1) ry aE;go_upto_region 7 with fail;refine gg (fun w':World=>w'=W3.drew) 9 ?_ ?_
    ·rfl
    intro aC;refine bE [0,1,2,3,4,5,6,7,8] ?_;refine dE ?_;clear aC;go_wp2
    go_meet
    case rel=>
     refine⟨?_,(af.setCell (p:=⟨g,b'*3+1,none⟩) ((af.ai _ _).drew) (.inl (.inl rfl)) _)⟩;rw[e1.out,e2.out];exact(show mJ W3.drew g eb m N1 E1 from H3).Bh ry (j:=1) aE _ _ fun k hk=>by
      rcases(show k=0∨k=1∨k=2 by omega)with rfl|rfl|rfl<;>rfl
  case rest=>
   obtain⟨h4,ey⟩:=hcut;clear b0 b1 b2 hG H3;have cr:=ae<|bI.trans ey;clear bI ey;obtain⟨W4,e4⟩:∃W4,W4=wc:=⟨_,rfl⟩;subst e4;generalize UB N1 ⟨i,a,b⟩=N2 at *;generalize M6 E1 i ⟨i,a,b⟩=E2 at *;have H4:=ae h4;clear h4;have hm:=HM.out;rw[←HQM.out]at hm;have ce:=H4.end_ (b:=i) (j:=2) hi aE
   replace ce:aF W4 eb (i*3+2) ((E2 i).m):=ce
   have cn:aF W4 g (n*3) ((N2 n).l):=H4.node (b:=n) (j:=0) hn aE;have f1:=H4.2.free (i*3+2);have f2:=H4.1.free (n*3);have hq:=HQM.out;generalize ur:(E2 i).m=q at *;have HMM:=ae ur;have hw:IntKind.i64.wrap (q - 1)=q - 1:=by rw[IntKind.wrap_i64];omega
   have Dj:=ae hm;have hge:eb≠g:=fun e=>H4.ne e.symm
   have acB:g≠eb:=H4.ne;clear ur hm hq HA HB;go_wp2
   go_end0
   refine⟨rfl,?_,(cr.setCell (p:=⟨eb,i*3+2,none⟩) (.inl (.inr rfl)) _).setCell (p:=⟨g,n*3,none⟩) (.inl (.inl rfl)) _⟩;rw[Xj.out,HQE.out,←HQM.out];have s1:=H4.yZ hi (j:=2) aE (ah (q - 1)) {E2 i with m:=q - 1} fun k hk=>by
    rcases(show k=0∨k=1∨k=2 by omega)with rfl|rfl|rfl<;>rfl
   exact s1.Bh hn (j:=0) aE (ah (-1)) {N2 n with l:=-1} fun k hk=>by
    rcases(show k=0∨k=1∨k=2 by omega)with rfl|rfl|rfl<;>rfl
def cu (S:Nat→List Int)(b:Int):Nat→List Int:=fun j=>(S j).erase b
theorem xD.rem_in {m:Nat}{N:Int→Nd}{E:Nat→En}{S:Nat→List Int}(h:xD m N E S){i:Nat}{b:Int}(hb:b∈S i):xg S i b=cu S b:=by
 funext j
 unfold xg cu ba
 split
 ·rename_i e;rw[e]
 ·rename_i e
  exact(List.erase_of_not_mem fun h2=>e (h.dj h2 hb)).symm
theorem DM {S:Nat→List Int}{b:Int}(hb:∀i,b∉S i):cu S b=S:=funext fun j=>List.erase_of_not_mem (hb j)
theorem xD.node {m:Nat}{N:Int→Nd}{E:Nat→En}{S:Nat→List Int}(h:xD m N E S){i:Nat}{b:Int}(hb:b∈S i):
 ((N b).a= -1∨∃a:Nat,a<64∧(N b).a=a)∧((N b).b= -1∨∃a:Nat,a<64∧(N b).b=a):=by
 have key:∀x:Int,x∈S i→∃a:Nat,a<64∧x=a:=fun x hx=>by
  obtain⟨h1,h2⟩:=h.lC hx;exact⟨x.toNat,aj,aj⟩
 rw[h.Gb hb];exact⟨(DP (S i) b (h.lC hb).1).imp id fun h2=>key _ h2,(zr (S i) b).imp id fun h2=>key _ h2⟩
theorem iA.Lf {g eb m:Nat}{S:Nat→List Int}{i n:Nat}{w:World}(h:iA w g eb m S)(hb:(n:Int)∈S i):
 Calls Tryz.prog 195 #[aO g,ah n] w fun e w'=>e= .returned (.tuple #[])∧iA w' g eb m (cu S n)∧af (ra g eb) w w':=by
 obtain⟨N,E,hm,hr,h1,h2⟩:=h;have hn:=(hr.lC hb).2;have hi:=hr.lt hb;obtain⟨ha,ry⟩:=hr.node hb;have hlen:=hr.len i;refine(Pq w hm aj hi (by rw[hr.Gb hb]) ha ry (by rw[hr.ends i hi];constructor<;>(try dsimp only)<;>omega)).mono fun e w' ⟨h3,h4,h5⟩=>⟨h3,⟨_,_,h4,?_,h1,h2⟩,h5⟩
 rw[←hr.rem_in hb];exact hr.outs hb
theorem B8 {g eb m:Nat}{S:Nat→List Int}{i:Nat}{w:World}(h:iA w g eb m S)(hi:i<m):Calls Tryz.prog 191 #[aO g,ah i] w fun e w'=>e= .returned (.bool true)∧w=w':=by
 have:=sT (i:Int) w h;rwa [show(decide (0≤(i:Int))&&decide ((i:Int)<m))=true by simp;omega]at this
theorem yE (g:Nat){n:Nat}(w:World)(hn:n<64):Calls Tryz.prog 194 #[aO g,ah n] w fun e w'=>e= .returned (.bool true)∧w=w':=by
 have:=yF g n w;rwa [show(decide (0≤(n:Int))&&decide ((n:Int)<64))=true by simp;omega]at this
theorem LU {g eb m:Nat}{S:Nat→List Int}{i n:Nat}(w:World)(h:iA w g eb m S)(hi:i<m)(hn:n<64):
 Calls Tryz.prog 196 #[aO g,ah i,ah n] w fun e w'=>e= .returned (ah 0)∧iA w' g eb m (cu S n)∧af (ra g eb) w w':=by
 have R5:(n:Int)<64:=aj;have uD:(i:Int)<m:=aj
 by_cases hb:∃k,(n:Int)∈S k
 ·obtain⟨k,hb⟩:=hb;have HC:=ae<|h.Lf hb;have HLI:=ae<|B8 h hi;have sg:=ae<|yE g w hn;obtain⟨N,E,hm,hr,_⟩:=h;have hc:aF w g (n*3) ((N n).l):=hm.node (b:=n) (j:=0) hn aE;rw[hr.Gb hb]at hc;have hh:=hm.hd;dsimp only at hc;clear hm hr hb
  go_enter Tryz.func196,Tryz.ntmps196
  go_wp2_with (first|(go_at_call 195;refine HC.mono ?_;rintro e W1 ⟨rfl,h1,aK⟩)|(go_at_call 191;refine HLI.mono ?_;rintro e W0 ⟨rfl,rfl⟩)|(go_at_call 194;refine sg.mono ?_;rintro e W0 ⟨rfl,rfl⟩));go_ret;exact⟨rfl,h1,aK⟩
 ·have hb:∀k,(n:Int)∉S k:=fun k hk=>hb ⟨k,hk⟩
  rw[DM hb];have H:=ae h;obtain⟨N,E,hm,hr,_⟩:=h;have hc:aF w g (n*3) ((N n).l):=hm.node (b:=n) (j:=0) hn aE;rw[hr.no aj aj hb]at hc;have hh:=hm.hd;clear hm hr hb
  go_enter Tryz.func196,Tryz.ntmps196
  go_wp2;go_ret;exact⟨rfl,H,af.ai _ _⟩
theorem ku {g eb m:Nat}{S:Nat→List Int}{i n:Nat}(w:World)(h:iA w g eb m S)(hb:(n:Int)∈S i):
 Calls Tryz.prog 187 #[aO g,ah n] w fun e w'=>e= .returned (ah 0)∧iA w' g eb m (cu S n)∧af (ra g eb) w w':=by
 have HC:=ae<|h.Lf hb;obtain⟨N,E,hm,hr,_⟩:=h;have hn:=(hr.lC hb).2;have sg:=ae<|yE g (n:=n) w aj;have hc:aF w g (n*3) ((N n).l):=hm.node (b:=n) (j:=0) aj aE;rw[hr.Gb hb]at hc;dsimp only at hc;clear hm hr hb
 go_enter Tryz.func187,Tryz.ntmps187
 go_wp2_with (first|(go_at_call 195;refine HC.mono ?_;rintro e W1 ⟨rfl,h1,aK⟩)|(go_at_call 194;refine sg.mono ?_;rintro e W0 ⟨rfl,rfl⟩));go_ret;exact⟨rfl,h1,aK⟩
end
theorem xT {α:Type}(f:Int→α)(k:Int)(u v:α):aV (aV f k u) k v=aV f k v:=by
 funext x
 unfold aV
 split<;>rfl
theorem tx {α:Type}(f:Nat→α)(k:Nat)(u v:α):ba (ba f k u) k v=ba f k v:=by
 funext x
 unfold ba
 split<;>rfl
theorem xU {α:Type}(f:Int→α)(k:Int)(u:α):aV f k u k=u:=by simp[aV]
theorem GZ {α:Type}(f:Nat→α)(k:Nat)(u:α):ba f k u k=u:=by simp[ba]
def WO (N:Int→Nd)(n f:Int):Int→Nd:=if f= -1 then N else aV N f {N f with a:=n}
def J2 (E:Nat→En)(i:Nat)(n f:Int):Nat→En:=if f= -1 then ba E i {E i with k:=n} else E
theorem I0 (N:Int→Nd)(E:Nat→En)(i:Nat)(n:Int):zw N E i n=WO (aV N n ⟨i,-1,(E i).f⟩) n (E i).f:=rfl
theorem I1 (E:Nat→En)(i:Nat)(n:Int):zx E i n=ba (J2 E i n (E i).f) i ⟨n,(J2 E i n (E i).f i).k,(E i).m+1⟩:=by
 funext x
 unfold zx J2 ba
 split
 ·split<;>simp_all [ba]
 ·split<;>simp_all [ba]
theorem Zc (E:Nat→En)(i:Nat)(n f:Int):(J2 E i n f i).m=(E i).m:=by
 unfold J2 ba
 split<;>simp_all
theorem Zd (E:Nat→En)(i:Nat)(n f:Int):(J2 E i n f i).f=(E i).f:=by
 unfold J2 ba
 split<;>simp_all
section
theorem mJ.O2 {w:World}{g eb m:Nat}{N:Int→Nd}{E:Nat→En}(h:mJ w g eb m N E){b:Nat}(hb:b<64)(n:Nd):
 mJ (((w.setCell ⟨g,b*3,none⟩ (ah n.l)).setCell ⟨g,b*3+1,none⟩ (ah n.a)).setCell ⟨g,b*3+2,none⟩ (ah n.b)) g eb m (aV N b n) E:=by
 have s1:=h.Bh hb (j:=0) aE (ah n.l) {N b with l:=n.l} fun k hk=>by
  rcases(show k=0∨k=1∨k=2 by omega)with rfl|rfl|rfl<;>rfl
 have s2:=s1.Bh hb (j:=1) aE (ah n.a) {N b with l:=n.l,a:=n.a} fun k hk=>by
  rw[xU];rcases(show k=0∨k=1∨k=2 by omega)with rfl|rfl|rfl<;>rfl
 have s3:=s2.Bh hb (j:=2) aE (ah n.b) n fun k hk=>by
  rw[xU];rcases(show k=0∨k=1∨k=2 by omega)with rfl|rfl|rfl<;>rfl
 rw[xT,xT]at s3;exact s3
theorem jB{P:Prop}(h:P:=by
 rw[GZ];rcases(show k=0∨k=1∨k=2 by omega)with rfl|rfl|rfl<;>rfl):P:=h
theorem iW {g eb m:Nat}{S:Nat→List Int}{i n:Nat}(w:World)(h:iA w g eb m S)(hi:i<m)(hn:n<64):
 Calls Tryz.prog 188 #[aO g,ah i,ah n] w fun e w'=>e= .returned (ah 0)∧iA w' g eb m (bm (cu S n) i n)∧af (ra g eb) w w':=by
 have R5:(n:Int)<64:=aj;have uD:(i:Int)<m:=aj;have HR:=ae<|LU w h hi hn;have Og:∀j,(n:Int)∉cu S n j:=by
  obtain⟨N,E,hm,hr,_⟩:=h;exact fun j=>List.Nodup.not_mem_erase (hr.nodup j)
 generalize cu S n=S1 at *;have Yy:=ae Og;clear h Og
 go_enter Tryz.func188,Tryz.ntmps188
 go_upto_region 4 with(go_at_call 196;refine HR.mono ?_;rintro e W1 ⟨rfl,h1,aK⟩);clear HR;obtain⟨N,E,hm,hr,hm0,X1⟩:=h1;have XU:=hr.TM hi aj R5 Yy;have SX:∀x:Nat,hd (S1 i)=x→x≠n∧x<64:=fun x hx=>by
  have hxm:hd (S1 i)∈S1 i:=jn aj;rw[hx]at hxm;have:=hr.lC hxm;exact⟨fun e=>Yy i (e▸hxm),aj⟩
 have SV:hd (S1 i)= -1∨∃a:Nat,hd (S1 i)=a:=by
  by_cases e:hd (S1 i)= -1
  ·exact .inl e
  ·have:=hr.lC (jn e);exact .inr ⟨(hd (S1 i)).toNat,aj⟩
 have hlen:=hr.len i;have hE:=hr.ends i hi;have hEm:0≤(E i).m∧(E i).m≤64:=by rw[hE];constructor<;>(try dsimp only)<;>omega
 have hEf:(E i).f=hd (S1 i):=by rw[hE]
 rw[←hEf]at SX SV;have abe:=ae XU;have H1:=ae hm;have bc:=ae aK;have HFN:=ae SX;have Gs:=ae SV;have Gt:=ae hEm;have HM:=aq (0<m∧m≤40) (⟨hm0,X1⟩);clear hm hr hm0 X1 XU SX SV hlen hE hEm hEf aK;have hh:=H1.hd;have ce:aF W1 eb (i*3) ((E i).f):=H1.end_ (b:=i) (j:=0) hi aE;have c0:aF W1 g (n*3) ((N n).l):=H1.node (b:=n) (j:=0) hn aE;have c1:aF W1 g (n*3+1) ((N n).a):=H1.node (b:=n) (j:=1) hn aE;have c2:aF W1 g (n*3+2) ((N n).b):=H1.node (b:=n) (j:=2) hn aE;have f0:=H1.1.free (n*3);have f1:=H1.1.free (n*3+1);have f2:=H1.1.free (n*3+2);have Vx:=ae<|I0 N E i n;have rh:=ae<|I1 E i n;have UN:=Zc E i n (E i).f;have hq2:=Zd E i n (E i).f;generalize hf:(E i).f=f at *;have HF:=ae hf;have AJ:=ae UN;have qQ:=ae hq2;clear hf UN hq2;go_upto_region 5 with fail;refine gg (fun w':World=>w'=W1.drew) 11 ?_ ?_
 ·rfl
 intro aC;refine bE [0,1,2,3,4,5,6,7,8,9,10] ?_;refine dE ?_;clear aC;go_upto_region 6 with fail;have H2:=aq (mJ (((W1.drew.setCell ⟨g,n*3,none⟩ (ah i)).setCell ⟨g,n*3+1,none⟩ (ah (-1))).setCell ⟨g,n*3+2,none⟩ (ah f)) g eb m (aV N n ⟨i,-1,f⟩) E) ((show mJ W1.drew g eb m N E from H1).O2 hn ⟨i,-1,f⟩);have bu:=aq (af (ra g eb) w (((W1.drew.setCell ⟨g,n*3,none⟩ (ah i)).setCell ⟨g,n*3+1,none⟩ (ah (-1))).setCell ⟨g,n*3+2,none⟩ (ah f))) (((bc.drew.setCell (p:=⟨g,n*3,none⟩) (.inl (.inl rfl)) (ah i)).setCell (p:=⟨g,n*3+1,none⟩) (.inl (.inl rfl)) (ah (-1))).setCell (p:=⟨g,n*3+2,none⟩) (.inl (.inl rfl)) (ah f));change Code.wp _ _ _ _ (((W1.drew.setCell ⟨g,n*3,none⟩ (ah i)).setCell ⟨g,n*3+1,none⟩ (ah (-1))).setCell ⟨g,n*3+2,none⟩ (ah f));clear hh ce c0 c1 c2 f0 f1 f2 H1 bc;generalize(((W1.drew.setCell ⟨g,n*3,none⟩ (ah i)).setCell ⟨g,n*3+1,none⟩ (ah (-1))).setCell ⟨g,n*3+2,none⟩ (ah f))=W2 at *;generalize aV N n ⟨i,-1,f⟩=N1 at *;have ce:aF W2 eb (i*3) f:=by
  have:=H2.end_ (b:=i) (j:=0) hi aE;rw[←HF.out];exact this
 go_upto_if 37 with fail
 go_cut [] (fun wx=>mJ wx g eb m (WO N1 n f) (J2 E i n f)∧af (ra g eb) W2 wx)
 case first=>
  have hf:=Gs.out;have Gk:=HFN.out;clear Gs HFN AJ qQ Vx rh HF;rcases hf with hf|⟨a,hf⟩
  ·subst hf;have e1:=aq (WO N1 n (-1)=N1) (rfl);have e2:=aq (J2 E i n (-1)=ba E i {E i with k:=n}) (rfl);have f1:=H2.2.free (i*3+1);have ck:aF W2 eb (i*3+1) ((E i).k):=H2.end_ (b:=i) (j:=1) hi aE;clear Gk;go_wp2
   go_meet
   case rel=>
    refine⟨?_,af.setCell (p:=⟨eb,i*3+1,none⟩) (af.ai _ _) (.inl (.inr rfl)) _⟩;rw[e1.out,e2.out];exact H2.yZ hi (j:=1) aE _ _ fun k hk=>by
     rcases(show k=0∨k=1∨k=2 by omega)with rfl|rfl|rfl<;>rfl
  ·obtain⟨han,Yg⟩:=Gk a hf;subst hf;have e:¬((a:Int)= -1):=aj;have e1:=aq (WO N1 n a=aV N1 a {N1 a with a:=n}) (if_neg e);have e2:=aq (J2 E i n a=E) (if_neg e);clear e Gk han;have f1:=H2.1.free (a*3+1);have hai:(a:Int)<64:=aj;have ca:aF W2 g (a*3+1) ((N1 a).a):=H2.node (b:=a) (j:=1) Yg aE;go_upto_region 8 with fail;refine gg (fun w':World=>w'=W2.drew) 10 ?_ ?_
   ·rfl
   intro aC;refine bE [0,1,2,3,4,5,6,7,8,9] ?_;refine dE ?_;clear aC;go_wp2
   go_meet
   case rel=>
    refine⟨?_,(af.setCell (p:=⟨g,a*3+1,none⟩) ((af.ai _ _).drew) (.inl (.inl rfl)) _)⟩;rw[e1.out,e2.out];exact(show mJ W2.drew g eb m N1 E from H2).Bh Yg (j:=1) aE _ _ fun k hk=>by
     rcases(show k=0∨k=1∨k=2 by omega)with rfl|rfl|rfl<;>rfl
 case rest=>
  obtain⟨h3,bV⟩:=hcut;obtain⟨W3,e3⟩:∃W3,W3=wc:=⟨_,rfl⟩;subst e3;have bI:=ae<|bu.trans bV;have H3:=ae h3;clear h3 bV ce bu H2;generalize WO N1 n f=N2 at *;generalize J2 E i n f=E2 at *;have ce:aF W3 eb (i*3) ((E2 i).f):=H3.end_ (b:=i) (j:=0) hi aE;have cm:aF W3 eb (i*3+2) ((E2 i).m):=H3.end_ (b:=i) (j:=2) hi aE;have f0:=H3.2.free (i*3);have f2:=H3.2.free (i*3+2);have hm:=Gt.out;have hq:=AJ.out;rw[←hq]at hm;generalize ur:(E2 i).m=q at *;have HMM:=ae ur;have hw:IntKind.i64.wrap (q+1)=q+1:=by rw[IntKind.wrap_i64];omega
  clear hm hq ur Gt;go_wp2;go_ret;refine⟨rfl,⟨_,_,?_,abe,HM.1,HM.2⟩,(bI.setCell (p:=⟨eb,i*3,none⟩) (.inl (.inr rfl)) _).setCell (p:=⟨eb,i*3+2,none⟩) (.inl (.inr rfl)) _⟩;rw[Vx.out,rh.out,←AJ.out];have s1:=H3.yZ hi (j:=0) aE (ah n) {E2 i with f:=n} fun k hk=>by
   rcases(show k=0∨k=1∨k=2 by omega)with rfl|rfl|rfl<;>rfl
  have s2:=s1.yZ hi (j:=2) aE (ah (q+1)) ⟨n,(E2 i).k,q+1⟩ fun k hk=>by
   exact jB
  rw[tx]at s2;exact s2
end
end Go.Proofs.YtpcfhbeakecihaaGreat

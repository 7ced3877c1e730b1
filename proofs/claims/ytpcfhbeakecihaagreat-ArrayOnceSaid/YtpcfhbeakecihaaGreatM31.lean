/- Lemmas. -/
import Derived.Test.YtpcfhbeakecihaaGreatM24
import Derived.Test.YtpcfhbeakecihaaGreatM30
set_option linter.all false
set_option maxHeartbeats 20000000
set_option maxRecDepth 100000
namespace Go.Proofs.YtpcfhbeakecihaaGreat
open Go.ChangeShapes Go.RowKit Go.WideShapes
def gD (P:bM):Array Value:=#[ah P.cap,ah P.q,ah P.gv,ah P.ghost]
def wX:bu:=⟨fun _=>[],0,fun _=>0,fun _=>0⟩
theorem wv (g:Nat)(P:bM):Tryz.prog.built 203 [(0,.agg #[aI g]),(1,.agg (gD P))]=some (tO g P wX):=by kernel_rfl
def nX:C9:=⟨199,202,197,201,198,200⟩
def Dw (P:bM):oz bu:=⟨ar P,ff P,bT P,fun s b=>lS s b,fun s=>s.now.toNat,fun _=>True⟩
def GG (p g eb:Nat)(P:bM)(s:bu)(w:World):Prop:=cJ w p g eb P s∧pR P s
theorem wA (P:bM)(s:bu)(i:Nat):(dV P s i).now=s.now:=by unfold dV;split<;>rfl
theorem o4 (P:bM)(s:bu):∀k,(aT P s k).now=s.now
 |0=>rfl
 |k+1=>(wA P _ _).trans (o4 P s k)
theorem jq (P:bM)(s:bu)(b:Int):(bU P s b).now=s.now:=o4 P _ _
theorem mo (P:bM)(s:bu)(b:Int):(aV P s b).now=s.now:=by unfold aV;split<;>rfl
theorem tD (P:bM)(s:bu):(bt P s).now=s.now:=by unfold bt;split<;>rfl
theorem yN (P:bM)(s:bu)(b:Int):(bT P s b).1.now=s.now+1:=by
 unfold bT
 split
 ·exact jq P _ b
 ·split
  ·exact(jq P _ b).trans ((mo P _ b).trans (tD P _))
  ·exact(jq P _ b).trans (mo P _ b)
section
variable {w:World}{P:bM}
theorem pA (hP:P.Ok)(w:World):Calls Tryz.prog 114 #[.agg (gD P)] w fun e w'=>e= .returned (.bool true)∧af aA w w':=by
 obtain⟨h0,h1,h2,h3,h4,h5,h6⟩:=hP;have HB:=ae<|Box.fresh w 156 (gD P);have HO:=ae<|(af.ak aA w).alloc (.cells (gD P) 156)
 go_enter Tryz.func114,Tryz.ntmps114
 go_upto_region 1 with fail;change Code.wp _ _ _ _ (w.alloc (.cells (gD P) 156));generalize w.alloc (.cells (gD P) 156)=W at *;generalize w.heap.size=b at *;have x0:aF W b 0 P.cap:=HB.ag rfl;have x1:aF W b 1 P.q:=HB.ag rfl;have x2:aF W b 2 P.gv:=HB.ag rfl;have x3:aF W b 3 P.ghost:=HB.ag rfl;have i0:(1:Int)≤P.cap:=ai;have i1:(P.cap:Int)≤16:=ai;have i2:(1:Int)≤P.q:=ai;have i3:(P.q:Int)≤8:=ai;have i4:(1:Int)≤P.gv:=ai;have i5:(P.gv:Int)≤100:=ai;have i6:(0:Int)≤P.ghost:=ai;have i7:(P.ghost:Int)≤16:=ai;go_wp2;go_ret;exact⟨rfl,HO⟩
def tM (P:bM)(w:World)(e:Ending)(w':World):Prop:=∃p g eb,e= .returned (.tuple #[aI p,ah 0])∧cJ w' p g eb P wX∧w.heap.size≤p∧w.heap.size≤g∧w.heap.size≤eb∧af aA w w'
theorem Be (hP:P.Ok)(w:World):Calls Tryz.prog 83 #[.agg (gD P)] w (tM P w):=by
 have HR:=ae<|fun w=>pA hP w;have E9:=hP.q8;have GK:IntKind.i64.wrap ((P.q:Int)+1)=(P.q:Int)+1:=by rw[IntKind.wrap_i64];omega
 clear hP
 go_enter Tryz.func83,Tryz.ntmps83
 go_upto_region 1 with fail;have al:=(af.ak aA w).alloc (.cells (gD P) 156);have HB:=ae<|Box.fresh w 156 (gD P);have HO:=ae al;change Code.wp _ _ _ _ (w.alloc (.cells (gD P) 156));clear al;generalize w.alloc (.cells (gD P) 156)=W at *;generalize J7:w.heap.size=sb at *;have FT:=ae J7;clear J7;go_upto_region 3 with(first|(refine pL (gD P) HB Tryz.underlying156 ?_)|(go_at_call 114;refine(HR _).mono ?_;rintro e W1 ⟨rfl,a8⟩));have cQ:=ae<|a8.az HB id;have bw:=ae<|HO.trans a8;clear a8 HB HO;refine kb (fun w':World=>Box w' sb 156 (gD P)∧af aA w w') 6 ?_ ?_
 ·first|exact rq|exact⟨cQ.drew,bw.drew⟩
 intro aX;refine eZ [0] ?_;refine bj (i:=1) (v:=ah P.q) bJ rfl bJ (fun _ _ _ h=>h) (.inl ⟨by rfl,?_⟩) aX ?_
 ·intro w hSw;have hq:=hSw.1.ag (i:=1) (v:=ah P.q) rfl;clear hSw;go_simp;(try with_reducible rfl)
 refine sd ?_;refine eZ [2] ?_;refine bj (i:=5) (v:=.agg (gD P)) bJ rfl bJ (fun _ _ _ h=>h) (yieldsIf_load_mid (by rfl) 156 _ rfl sb 0 rfl (gD P).toList _ (fun w hw j v hj=>by rw[Nat.zero_add];exact hw.1.ag (by rw[←Array.getElem?_toList];exact hj)) Tryz.underlying156 rfl bJ) (by assumption) ?_;refine sd ?_;refine lh 3 fun K hK=>?_
 go_simp;have HN:=nk (m:=P.q+1) W1.drew ai ai;rw[show((P.q+1:Nat):Int)=(P.q:Int)+1 by omega]at HN;refine HN.mono ?_;rintro e W2 ⟨g,eb,rfl,h3,h4,h5,h6⟩;have rq:Box W2 sb 156 (gD P)∧af aA w W2:=⟨h6.az aX.1 id,aX.2.trans h6⟩;refine lj hK ?_ fun aX=>?_
 ·first|exact rq|exact⟨cQ.drew,bw.drew⟩
 clear hK;refine eZ [4] ?_;refine jz ?_;have uj:=ae h3;have ru:=ae rq;have Dn:=aH (w.heap.size≤g∧w.heap.size≤eb∧w.heap.size≤W2.heap.size) (⟨Nat.le_trans bw.drew.size h4,Nat.le_trans bw.drew.size h5,rq.2.size⟩);clear aX rq h3 h4 h5 h6;refine cj rfl _ _ rfl [(0,.agg #[aI g]),(1,.agg (gD P))] _ (by simp[Act.eval]) (wv g P) ?_;go_wp2;go_ret2;have al:=(af.ak aA W2).alloc (.cells (tO g P wX) 203);exact⟨W2.heap.size,g,eb,rfl,⟨Box.fresh W2 203 (tO g P wX),uj.keep al⟩,Dn.2.2,Dn.1,Dn.2.1,ru.2.trans al⟩
theorem jl (p : Nat) : ee 152 (aI p) "Has" nX.has ∧ ee 152 (aI p) "Use" nX.use ∧ ee 152 (aI p) "Add" nX.add ∧
 ee 152 (aI p) "Remove" nX.rem ∧ ee 152 (aI p) "All" nX.all ∧ ee 152 (aI p) "Len" nX.len :=
 ⟨⟨fun w=>by kernel_rfl,fun a w=>by kernel_rfl⟩,⟨fun w=>by kernel_rfl,fun a w=>by kernel_rfl⟩,⟨fun w=>by kernel_rfl,fun a w=>by kernel_rfl⟩,
  ⟨fun w=>by kernel_rfl,fun a w=>by kernel_rfl⟩,⟨fun w=>by kernel_rfl,fun a w=>by kernel_rfl⟩,⟨fun w=>by kernel_rfl,fun a w=>by kernel_rfl⟩⟩
theorem Bd (p g eb:Nat)(hP:P.Ok):xz (Dw P) 152 (aI p) nX (lr p g eb) (GG p g eb P) where
 uB:=(jl p).1
 uz:=(jl p).2.1
 uD:=(jl p).2.2.1
 uA:=(jl p).2.2.2.1
 uC:=(jl p).2.2.2.2.1
 ptr:=⟨p,rfl,.inl rfl⟩
 ao:=fun h ho hF=>⟨h.1.ao ho (hF p (.inl rfl)) (hF g (.inr (.inl rfl))) (hF eb (.inr (.inr rfl))),h.2⟩
 lt:=fun h k hk=>by
  rcases hk with rfl|rfl|rfl
  ·exact Box.lt h.1.m
  ·exact h.1.sp.BN.1
  ·exact h.1.sp.BN.2
 has:=fun b h=>(mW b h.1 h.2.ok.dj).mono fun e w' ⟨h1,h2⟩=>⟨h1,h2▸af.ak _ _⟩
 all:=fun h=>Bg hP h.1 h.2.ok.dj
 use:=fun {s w b} h hb ha=>by
  have hb:b∈ar P s:=hb;obtain⟨n,rfl⟩:=Int.eq_ofNat_of_zero_le (ej h.2.ok hb).1;have ha:s.now.toNat<1000000000:=ha;exact(vi hP h.1 h.2.ok ai hb).mono fun e w' ⟨h1,h2,h3⟩=>⟨h1,⟨h2,(ni hP h.2 hb).1⟩,h3⟩
 add:=fun {s w b} h h0 h1 _ ha=>by
  obtain⟨n,rfl⟩:=Int.eq_ofNat_of_zero_le h0;have ha:s.now.toNat<1000000000:=ha;exact(Bh hP h.1 h.2 ai ai).mono fun e w' ⟨h2,h3,h4⟩=>⟨h2,⟨h3,(sa hP h.2 h0 h1).1⟩,h4⟩
 rem:=fun {s w b} h hb=>by
  have hb:b∈ar P s:=hb;obtain⟨n,rfl⟩:=Int.eq_ofNat_of_zero_le (ej h.2.ok hb).1;exact(Bc h.1 h.2.ok hb).mono fun e w' ⟨h1,h2,h3⟩=>⟨h1,⟨h2,(rL h.2 hb).1⟩,h3⟩
 gr:=fun h hb=>ej h.2.ok hb
 nodup:=fun h=>bL h.2.ok
 xx:=fun h h0 h1 _=>(sa hP h.2 h0 h1).2.2
 xn:=fun h hb=>(ni hP h.2 hb).2.2
 su:=fun h hb=>(rL h.2 hb).2
 AQ:=fun s b=>by
  show(ff P s b).now.toNat≤s.now.toNat+1
  rw[show(ff P s b).now=s.now+1 from jq P _ b];omega
 AU:=fun s b=>by
  show(bT P s b).1.now.toNat≤s.now.toNat+1
  rw[yN];omega
 AR:=fun s b=>Nat.le_refl _
def EV (P:bM)(hP:P.Ok):aZ:=⟨bu,Nat×Nat×Nat,Dw P,152,nX,fun i=>aI i.1,fun i=>lr i.1 i.2.1 i.2.2,fun i=>GG i.1 i.2.1 i.2.2 P,wX,fun i=>Bd i.1 i.2.1 i.2.2 hP,by
 show ar P wX= []
 cases h:ar P wX with
 |nil=>rfl
 |cons a l=>
  have:a∈ar P wX:=by rw[h];exact List.mem_cons_self ..
  obtain⟨i,_,h2⟩:=bh.1 this
  cases h2⟩
end
def cR (c:aN)(k:Nat):bM:=⟨(c.f (9+k)).toNat,(c.f 12).toNat,(c.f 13).toNat,(c.f 14).toNat⟩
theorem ko {c:aN}{k:Nat}(hP:dJ c)(hk:k<3):(cR c k).Ok:=by
 have h1:=hP.pc k hk;have h2:=hP.CA;have h3:=hP.Cz;have h4:=hP.Cy
 constructor<;>simp only[cR]<;>omega
section
theorem yi {c:aN}{k:Nat}(hP:dJ c)(hk:k<3)(hp:c.f 5≠2)(hq:c.f (6+k)=2):(EV (cR c k) (ko hP hk)).Made c (k+1):=by
 intro w A n cp bI;have KR:=ko hP hk;have hc:=hP.pc k hk;have H9:=hP.CA;have H8:=hP.Cz;have Ox:=hP.Cy;have HN:=ae<|fun w=>Be (P:=cR c k) KR w;have e9:c.f (9+k)=((cR c k).cap:Int):=by simp only[cR];omega
 have K6:c.f 12=((cR c k).q:Int):=by simp only[cR];omega
 have K5:c.f 13=((cR c k).gv:Int):=by simp only[cR];omega
 have K4:c.f 14=((cR c k).ghost:Int):=by simp only[cR];omega
 have HE:=aH (c.f (9+k)=((cR c k).cap:Int)∧c.f 12=((cR c k).q:Int)∧c.f 13=((cR c k).gv:Int)∧c.f 14=((cR c k).ghost:Int)) (⟨e9,K6,K5,K4⟩);have hw:IntKind.i64.wrap (((k+1:Nat):Int) - 1)=k:=by rw[IntKind.wrap_i64];omega
 have wH:(k:Int)<3:=ai;have HC:=ae<|fun(W:World) (bb:Nat) (hb:Box W bb 25 (aj c (.slice A n cp))) (i:Nat) (hi:i<16)=>hb.ag (aB c (.slice A n cp) hi);have HQ:=ae hq;have Dj:=ae hp;have PA:=aH (pR (cR c k) wX) (yd _)
 show Calls Tryz.prog 53 #[.agg (aj c (.slice A n cp)),ah ((k+1:Nat):Int)] w (uK (EV (cR c k) KR) w)
 clear bI hc hq H9 H8 Ox e9 K6 K5 K4 hp
 go_enter Tryz.func53,Tryz.ntmps53
 go_upto_region 1 with fail;have HB:=ae<|Box.fresh w 25 (aj c (.slice A n cp));have HO:=ae<|(af.ak aA w).alloc (.cells (aj c (.slice A n cp)) 25);generalize w.alloc (.cells (aj c (.slice A n cp)) 25)=W1 at *;generalize w.heap.size=bb at *;have c5:=HC.out W1 bb HB 5 av;have c6:=HC.out W1 bb HB (6+k) ai;have c9:=HC.out W1 bb HB (9+k) ai;have OJ:=HC.out W1 bb HB 12 av;have OI:=HC.out W1 bb HB 13 av;have OH:=HC.out W1 bb HB 14 av;rw[HE.1]at c9;rw[HE.2.1]at OJ;rw[HE.2.2.1]at OI;rw[HE.2.2.2]at OH;rw[HQ.out]at c6;have hq:=Dj.out;have Kd:(c.f 5==2)=false:=by simpa using hq
 generalize c.f 5=f5 at *;have Ca:=ae<|HN W1;clear HC HE HN Dj;go_wp2_with (go_at_call 83;refine Ca.mono ?_;rintro e W2 ⟨p,g,eb,rfl,h1,h2,h3,h4,h5⟩);go_ret;have hsz:=HO.size;refine⟨(p,g,eb),rfl,⟨h1,PA⟩,fun j hj=>?_,HO.trans h5⟩;exact fX
end
end Go.Proofs.YtpcfhbeakecihaaGreat

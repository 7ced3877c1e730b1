/- Lemmas. -/
import Derived.Test.YtchofaecncibjaaGreatM24
import Derived.Test.YtchofaecncibjaaGreatM30
set_option linter.all false
set_option maxHeartbeats 20000000
set_option maxRecDepth 100000
namespace Go.Proofs.YtchofaecncibjaaGreat
open Go.ChangeShapes Go.RowKit Go.WideShapes
def tB (P:dN):Array Value:=#[ah P.cap,ah P.q,ah P.kL,ah P.ghost]
def UX:dB:=⟨fun _=>[],0,fun _=>0,fun _=>0⟩
theorem Ul (g:Nat)(P:dN):Tryz.prog.built 225 [(0,.agg #[aO g]),(1,.agg (tB P))]=some (Qb g P UX):=by kernel_rfl
def GK:OFn:=⟨198,201,196,200,197,199⟩
def acs (P:dN):eY dB:=⟨aV P,ni P,ey P,fun s b=>zO s b,fun s=>s.now.toNat,fun _=>True⟩
def mqR (p g eb:Nat)(P:dN)(s:dB)(w:World):Prop:=jW w p g eb P s∧AE P s
theorem Uq (P:dN)(s:dB)(i:Nat):(ik P s i).now=s.now:=by unfold ik;split<;>rfl
theorem IW (P:dN)(s:dB):∀k,(ch P s k).now=s.now
 |0=>rfl
 |k+1=>(Uq P _ _).trans (IW P s k)
theorem xB (P:dN)(s:dB)(b:Int):(fF P s b).now=s.now:=IW P _ _
theorem Eo (P:dN)(s:dB)(b:Int):(bP P s b).now=s.now:=by unfold bP;split<;>rfl
theorem PK (P:dN)(s:dB):(cC P s).now=s.now:=by unfold cC;split<;>rfl
theorem XX (P:dN)(s:dB)(b:Int):(ey P s b).1.now=s.now+1:=by
 unfold ey
 split
 ·exact xB P _ b
 ·split
  ·exact(xB P _ b).trans ((Eo P _ b).trans (PK P _))
  ·exact(xB P _ b).trans (Eo P _ b)
section
variable {w:World}{P:dN}
theorem Jj (hP:P.Ok)(w:World):Calls Tryz.prog 124 #[.agg (tB P)] w fun e w'=>e= .returned (.bool true)∧ag az w w':=by
 obtain⟨h0,h1,h2,h3,h4,h5,h6⟩:=hP;have HB:=ae<|Box.fresh w 185 (tB P);have HO:=ae<|(ag.aj az w).alloc (.cells (tB P) 185)
 go_enter Tryz.func124,Tryz.ntmps124
 go_upto_region 1 with fail;change Code.wp _ _ _ _ (w.alloc (.cells (tB P) 185));generalize w.alloc (.cells (tB P) 185)=W at *;generalize w.heap.size=b at *;have x0:aw W b 0 P.cap:=HB.af rfl;have x1:aw W b 1 P.q:=HB.af rfl;have x2:aw W b 2 P.kL:=HB.af rfl;have x3:aw W b 3 P.ghost:=HB.af rfl;have i0:(1:Int)≤P.cap:=ao;have i1:(P.cap:Int)≤16:=ao;have i2:(1:Int)≤P.q:=ao;have i3:(P.q:Int)≤8:=ao;have i4:(1:Int)≤P.kL:=ao;have i5:(P.kL:Int)≤100:=ao;have i6:(0:Int)≤P.ghost:=ao;have i7:(P.ghost:Int)≤16:=ao;go_wp2;go_ret;exact⟨rfl,HO⟩
def P5 (P:dN)(w:World)(e:Ending)(w':World):Prop:=∃p g eb,e= .returned (.tuple #[aO p,ah 0])∧jW w' p g eb P UX∧w.heap.size≤p∧w.heap.size≤g∧w.heap.size≤eb∧ag az w w'
theorem abE (hP:P.Ok)(w:World):Calls Tryz.prog 101 #[.agg (tB P)] w (P5 P w):=by
 have HR:=ae<|fun w=>Jj hP w;have Uz:=hP.q8;have hwq:IntKind.i64.wrap ((P.q:Int)+1)=(P.q:Int)+1:=by rw[IntKind.wrap_i64];omega
 clear hP
 go_enter Tryz.func101,Tryz.ntmps101
 go_upto_region 1 with fail;have al:=(ag.aj az w).alloc (.cells (tB P) 185);have HB:=ae<|Box.fresh w 185 (tB P);have HO:=ae al;change Code.wp _ _ _ _ (w.alloc (.cells (tB P) 185));clear al;generalize w.alloc (.cells (tB P) 185)=W at *;generalize NF:w.heap.size=sb at *;have HSB:=ae NF;clear NF;go_upto_region 3 with(first|(refine fH (tB P) HB Tryz.underlying185 ?_)|(go_at_call 124;refine(HR _).mono ?_;rintro e W1 ⟨rfl,aR⟩));have bU:=ae<|aR.aq HB id;have aX:=ae<|HO.trans aR;clear aR HB HO;refine oa (fun w':World=>Box w' sb 185 (tB P)∧ag az w w') 6 ?_ ?_
 ·first|exact Ka|exact⟨bU.drew,aX.drew⟩
 intro aH;refine bX [0] ?_;refine cj (i:=1) (v:=ah P.q) bZ rfl bZ (fun _ _ _ h=>h) (.inl ⟨by rfl,?_⟩) aH ?_
 ·intro w hSw;have hq:=hSw.1.af (i:=1) (v:=ah P.q) rfl;clear hSw;go_simp;(try with_reducible rfl)
 refine CW ?_;refine bX [2] ?_;refine cj (i:=5) (v:=.agg (tB P)) bZ rfl bZ (fun _ _ _ h=>h) (yieldsIf_load_mid (by rfl) 185 _ rfl sb 0 rfl (tB P).toList _ (fun w hw j v hj=>by rw[Nat.zero_add];exact hw.1.af (by rw[←Array.getElem?_toList];exact hj)) Tryz.underlying185 rfl bZ) (by assumption) ?_;refine CW ?_;refine cM 3 fun K hK=>?_
 go_simp;have HN:=AM (m:=P.q+1) W1.drew ao ao;rw[show((P.q+1:Nat):Int)=(P.q:Int)+1 by omega]at HN;refine HN.mono ?_;rintro e W2 ⟨g,eb,rfl,h3,h4,h5,h6⟩;have Ka:Box W2 sb 185 (tB P)∧ag az w W2:=⟨h6.aq aH.1 id,aH.2.trans h6⟩;refine jS hK ?_ fun aH=>?_
 ·first|exact Ka|exact⟨bU.drew,aX.drew⟩
 clear hK;refine bX [4] ?_;refine cG ?_;have AF:=ae h3;have td:=ae Ka;have HLO:=aB (w.heap.size≤g∧w.heap.size≤eb∧w.heap.size≤W2.heap.size) (⟨Nat.le_trans aX.drew.size h4,Nat.le_trans aX.drew.size h5,Ka.2.size⟩);clear aH Ka h3 h4 h5 h6;refine gU rfl _ _ rfl [(0,.agg #[aO g]),(1,.agg (tB P))] _ (by simp[Act.eval]) (Ul g P) ?_;go_wp2;go_ret2;have al:=(ag.aj az W2).alloc (.cells (Qb g P UX) 225);exact⟨W2.heap.size,g,eb,rfl,⟨Box.fresh W2 225 (Qb g P UX),AF.keep al⟩,HLO.2.2,HLO.1,HLO.2.1,td.2.trans al⟩
theorem ur (p : Nat) : mN 181 (aO p) "Has" GK.has ∧ mN 181 (aO p) "Use" GK.use ∧ mN 181 (aO p) "Add" GK.add ∧
 mN 181 (aO p) "Remove" GK.rem ∧ mN 181 (aO p) "All" GK.all ∧ mN 181 (aO p) "Len" GK.len :=
 ⟨⟨fun w=>by kernel_rfl,fun a w=>by kernel_rfl⟩,⟨fun w=>by kernel_rfl,fun a w=>by kernel_rfl⟩,⟨fun w=>by kernel_rfl,fun a w=>by kernel_rfl⟩,
  ⟨fun w=>by kernel_rfl,fun a w=>by kernel_rfl⟩,⟨fun w=>by kernel_rfl,fun a w=>by kernel_rfl⟩,⟨fun w=>by kernel_rfl,fun a w=>by kernel_rfl⟩⟩
theorem abD (p g eb:Nat)(hP:P.Ok):VV (acs P) 181 (aO p) GK (C6 p g eb) (mqR p g eb P) where
 Ry:=(ur p).1
 Rw:=(ur p).2.1
 RA:=(ur p).2.2.1
 Rx:=(ur p).2.2.2.1
 Rz:=(ur p).2.2.2.2.1
 ptr:=⟨p,rfl,.inl rfl⟩
 aA:=fun h ho hF=>⟨h.1.aA ho (hF p (.inl rfl)) (hF g (.inr (.inl rfl))) (hF eb (.inr (.inr rfl))),h.2⟩
 lt:=fun h k hk=>by
  rcases hk with rfl|rfl|rfl
  ·exact Box.lt h.1.m
  ·exact h.1.sp.Qc.1
  ·exact h.1.sp.Qc.2
 has:=fun b h=>(Fj b h.1 h.2.ok.dj).mono fun e w' ⟨h1,h2⟩=>⟨h1,h2▸ag.aj _ _⟩
 all:=fun h=>abF hP h.1 h.2.ok.dj
 use:=fun {s w b} h hb ha=>by
  have hb:b∈aV P s:=hb;obtain⟨n,rfl⟩:=Int.eq_ofNat_of_zero_le (lh h.2.ok hb).1;have ha:s.now.toNat<1000000000:=ha;exact(SN hP h.1 h.2.ok ao hb).mono fun e w' ⟨h1,h2,h3⟩=>⟨h1,⟨h2,(Fs hP h.2 hb).1⟩,h3⟩
 add:=fun {s w b} h h0 h1 _ ha=>by
  obtain⟨n,rfl⟩:=Int.eq_ofNat_of_zero_le h0;have ha:s.now.toNat<1000000000:=ha;exact(abG hP h.1 h.2 ao ao).mono fun e w' ⟨h2,h3,h4⟩=>⟨h2,⟨h3,(Nw hP h.2 h0 h1).1⟩,h4⟩
 rem:=fun {s w b} h hb=>by
  have hb:b∈aV P s:=hb;obtain⟨n,rfl⟩:=Int.eq_ofNat_of_zero_le (lh h.2.ok hb).1;exact(abC h.1 h.2.ok hb).mono fun e w' ⟨h1,h2,h3⟩=>⟨h1,⟨h2,(MT h.2 hb).1⟩,h3⟩
 kA:=fun h hb=>lh h.2.ok hb
 nodup:=fun h=>fV h.2.ok
 GO:=fun h h0 h1 _=>(Nw hP h.2 h0 h1).2.2
 Rh:=fun h hb=>(Fs hP h.2 hb).2.2
 Kn:=fun h hb=>(MT h.2 hb).2
 VS:=fun s b=>by
  show(ni P s b).now.toNat≤s.now.toNat+1
  rw[show(ni P s b).now=s.now+1 from xB P _ b];omega
 VT:=fun s b=>by
  show(ey P s b).1.now.toNat≤s.now.toNat+1
  rw[XX];omega
 KA:=fun s b=>Nat.le_refl _
def mqK (P:dN)(hP:P.Ok):aZ:=⟨dB,Nat×Nat×Nat,acs P,181,GK,fun i=>aO i.1,fun i=>C6 i.1 i.2.1 i.2.2,fun i=>mqR i.1 i.2.1 i.2.2 P,UX,fun i=>abD i.1 i.2.1 i.2.2 hP,by
 show aV P UX= []
 cases h:aV P UX with
 |nil=>rfl
 |cons a l=>
  have:a∈aV P UX:=by rw[h];exact List.mem_cons_self ..
  obtain⟨i,_,h2⟩:=dz.1 this
  cases h2⟩
end
def fE (c:aM)(k:Nat):dN:=⟨(c.f (9+k)).toNat,(c.f 12).toNat,(c.f 13).toNat,(c.f 14).toNat⟩
theorem kj {c:aM}{k:Nat}(hP:cK c)(hk:k<3):(fE c k).Ok:=by
 have h1:=hP.pc k hk;have h2:=hP.P8;have h3:=hP.Uv;have h4:=hP.Uu
 constructor<;>simp only[fE]<;>omega
section
theorem Xd {c:aM}{k:Nat}(hP:cK c)(hk:k<3)(hp:c.f 5≠2)(hq:c.f (6+k)=2):(mqK (fE c k) (kj hP hk)).Made c (k+1):=by
 intro w A n cp bw;have hPk:=kj hP hk;have hc:=hP.pc k hk;have h12:=hP.P8;have h13:=hP.Uv;have h14:=hP.Uu;have HN:=ae<|fun w=>abE (P:=fE c k) hPk w;have e9:c.f (9+k)=((fE c k).cap:Int):=by simp only[fE];omega
 have e12:c.f 12=((fE c k).q:Int):=by simp only[fE];omega
 have e13:c.f 13=((fE c k).kL:Int):=by simp only[fE];omega
 have e14:c.f 14=((fE c k).ghost:Int):=by simp only[fE];omega
 have HE:=aB (c.f (9+k)=((fE c k).cap:Int)∧c.f 12=((fE c k).q:Int)∧c.f 13=((fE c k).kL:Int)∧c.f 14=((fE c k).ghost:Int)) (⟨e9,e12,e13,e14⟩);have hw:IntKind.i64.wrap (((k+1:Nat):Int) - 1)=k:=by rw[IntKind.wrap_i64];omega
 have ZK:(k:Int)<3:=ao;have HC:=ae<|fun(W:World) (bb:Nat) (hb:Box W bb 25 (ak c (.slice A n cp))) (i:Nat) (hi:i<16)=>hb.af (aL c (.slice A n cp) hi);have HQ:=ae hq;have lK:=ae hp;have C9:=aB (AE (fE c k) UX) (Xa _)
 show Calls Tryz.prog 67 #[.agg (ak c (.slice A n cp)),ah ((k+1:Nat):Int)] w (Sr (mqK (fE c k) hPk) w)
 clear bw hc hq h12 h13 h14 e9 e12 e13 e14 hp
 go_enter Tryz.func67,Tryz.ntmps67
 go_upto_region 1 with fail;have HB:=ae<|Box.fresh w 25 (ak c (.slice A n cp));have HO:=ae<|(ag.aj az w).alloc (.cells (ak c (.slice A n cp)) 25);generalize w.alloc (.cells (ak c (.slice A n cp)) 25)=W1 at *;generalize w.heap.size=bb at *;have c5:=HC.out W1 bb HB 5 aD;have c6:=HC.out W1 bb HB (6+k) ao;have c9:=HC.out W1 bb HB (9+k) ao;have c12:=HC.out W1 bb HB 12 aD;have c13:=HC.out W1 bb HB 13 aD;have c14:=HC.out W1 bb HB 14 aD;rw[HE.1]at c9;rw[HE.2.1]at c12;rw[HE.2.2.1]at c13;rw[HE.2.2.2]at c14;rw[HQ.out]at c6;have hq:=lK.out;have U3:(c.f 5==2)=false:=by simpa using hq
 generalize c.f 5=f5 at *;have Gc:=ae<|HN W1;clear HC HE HN lK;go_wp2_with (go_at_call 101;refine Gc.mono ?_;rintro e W2 ⟨p,g,eb,rfl,h1,h2,h3,h4,h5⟩);go_ret;have hsz:=HO.size;refine⟨(p,g,eb),rfl,⟨h1,C9⟩,fun j hj=>?_,HO.trans h5⟩;exact sg
end
end Go.Proofs.YtchofaecncibjaaGreat

/- Lemmas. -/
import Derived.Test.YtpcfhbeakecihaaGreatM23
import Derived.Test.YtpcfhbeakecihaaGreatM29
set_option linter.all false
set_option maxHeartbeats 20000000
set_option maxRecDepth 100000
namespace Go.Proofs.YtpcfhbeakecihaaGreat
open Go.ChangeShapes Go.RowKit Go.WideShapes
def pK (P:cI):Array Value:=#[ah P.cap,ah P.q,ah P.iC,ah P.ghost]
def Nv:cC:=⟨fun _=>[],0,fun _=>0,fun _=>0⟩
theorem MO (g:Nat)(P:cI):Tryz.prog.built 203 [(0,.agg #[aO g]),(1,.agg (pK P))]=some (Jq g P Nv):=by kernel_rfl
def Bk:WW:=⟨199,202,197,201,198,200⟩
def XO (P:cI):pQ cC:=⟨aI P,kC P,cP P,fun s b=>ub s b,fun s=>s.now.toNat,fun _=>True⟩
def mqR (p g eb:Nat)(P:cI)(s:cC)(w:World):Prop:=gZ w p g eb P s∧uH P s
theorem MU (P:cI)(s:cC)(i:Nat):(fA P s i).now=s.now:=by unfold fA;split<;>rfl
theorem Cn (P:cI)(s:cC):∀k,(bF P s k).now=s.now
 |0=>rfl
 |k+1=>(MU P _ _).trans (Cn P s k)
theorem sN (P:cI)(s:cC)(b:Int):(dV P s b).now=s.now:=Cn P _ _
theorem yt (P:cI)(s:cC)(b:Int):(bz P s b).now=s.now:=by unfold bz;split<;>rfl
theorem Ja (P:cI)(s:cC):(bJ P s).now=s.now:=by unfold bJ;split<;>rfl
theorem Qq (P:cI)(s:cC)(b:Int):(cP P s b).1.now=s.now+1:=by
 unfold cP
 split
 ·exact sN P _ b
 ·split
  ·exact(sN P _ b).trans ((yt P _ b).trans (Ja P _))
  ·exact(sN P _ b).trans (yt P _ b)
section
variable {w:World}{P:cI}
theorem CN (hP:P.Ok)(w:World):Calls Tryz.prog 114 #[.agg (pK P)] w fun e w'=>e= .returned (.bool true)∧af au w w':=by
 obtain⟨h0,h1,h2,h3,h4,h5,h6⟩:=hP;have HB:=ae<|Box.fresh w 156 (pK P);have HO:=ae<|(af.ai au w).alloc (.cells (pK P) 156)
 go_enter Tryz.func114,Tryz.ntmps114
 go_upto_region 1 with fail;change Code.wp _ _ _ _ (w.alloc (.cells (pK P) 156));generalize w.alloc (.cells (pK P) 156)=W at *;generalize w.heap.size=b at *;have x0:aF W b 0 P.cap:=HB.ag rfl;have x1:aF W b 1 P.q:=HB.ag rfl;have x2:aF W b 2 P.iC:=HB.ag rfl;have x3:aF W b 3 P.ghost:=HB.ag rfl;have i0:(1:Int)≤P.cap:=aj;have i1:(P.cap:Int)≤16:=aj;have i2:(1:Int)≤P.q:=aj;have i3:(P.q:Int)≤8:=aj;have i4:(1:Int)≤P.iC:=aj;have i5:(P.iC:Int)≤100:=aj;have i6:(0:Int)≤P.ghost:=aj;have i7:(P.ghost:Int)≤16:=aj;go_wp2;go_ret;exact⟨rfl,HO⟩
def Jo (P:cI)(w:World)(e:Ending)(w':World):Prop:=∃p g eb,e= .returned (.tuple #[aO p,ah 0])∧gZ w' p g eb P Nv∧w.heap.size≤p∧w.heap.size≤g∧w.heap.size≤eb∧af au w w'
theorem TF (hP:P.Ok)(w:World):Calls Tryz.prog 83 #[.agg (pK P)] w (Jo P w):=by
 have HR:=ae<|fun w=>CN hP w;have MX:=hP.q8;have hwq:IntKind.i64.wrap ((P.q:Int)+1)=(P.q:Int)+1:=by rw[IntKind.wrap_i64];omega
 clear hP
 go_enter Tryz.func83,Tryz.ntmps83
 go_upto_region 1 with fail;have al:=(af.ai au w).alloc (.cells (pK P) 156);have HB:=ae<|Box.fresh w 156 (pK P);have HO:=ae al;change Code.wp _ _ _ _ (w.alloc (.cells (pK P) 156));clear al;generalize w.alloc (.cells (pK P) 156)=W at *;generalize R2:w.heap.size=sb at *;have J9:=ae R2;clear R2;go_upto_region 3 with(first|(refine iy (pK P) HB Tryz.underlying156 ?_)|(go_at_call 114;refine(HR _).mono ?_;rintro e W1 ⟨rfl,aK⟩));have b8:=ae<|aK.ak HB id;have bc:=ae<|HO.trans aK;clear aK HB HO;refine gg (fun w':World=>Box w' sb 156 (pK P)∧af au w w') 6 ?_ ?_
 ·first|exact r9|exact⟨b8.drew,bc.drew⟩
 intro aC;refine bE [0] ?_;refine aB (i:=1) (v:=ah P.q) aS rfl aS (fun _ _ _ h=>h) (.inl ⟨by rfl,?_⟩) aC ?_
 ·intro w hSw;have hq:=hSw.1.ag (i:=1) (v:=ah P.q) rfl;clear hSw;go_simp;(try with_reducible rfl)
 refine dU ?_;refine bE [2] ?_;refine aB (i:=5) (v:=.agg (pK P)) aS rfl aS (fun _ _ _ h=>h) (yieldsIf_load_mid (by rfl) 156 _ rfl sb 0 rfl (pK P).toList _ (fun w hw j v hj=>by rw[Nat.zero_add];exact hw.1.ag (by rw[←Array.getElem?_toList];exact hj)) Tryz.underlying156 rfl aS) (by assumption) ?_;refine dU ?_;refine cX 3 fun K hK=>?_
 go_simp;have HN:=zK (m:=P.q+1) W1.drew aj aj;rw[show((P.q+1:Nat):Int)=(P.q:Int)+1 by omega]at HN;refine HN.mono ?_;rintro e W2 ⟨g,eb,rfl,h3,h4,h5,h6⟩;have r9:Box W2 sb 156 (pK P)∧af au w W2:=⟨h6.ak aC.1 id,aC.2.trans h6⟩;refine dy hK ?_ fun aC=>?_
 ·first|exact r9|exact⟨b8.drew,bc.drew⟩
 clear hK;refine bE [4] ?_;refine dE ?_;have Dq:=ae h3;have AG:=ae r9;have JL:=aq (w.heap.size≤g∧w.heap.size≤eb∧w.heap.size≤W2.heap.size) (⟨Nat.le_trans bc.drew.size h4,Nat.le_trans bc.drew.size h5,r9.2.size⟩);clear aC r9 h3 h4 h5 h6;refine du rfl _ _ rfl [(0,.agg #[aO g]),(1,.agg (pK P))] _ (by simp[Act.eval]) (MO g P) ?_;go_wp2;go_ret2;have al:=(af.ai au W2).alloc (.cells (Jq g P Nv) 203);exact⟨W2.heap.size,g,eb,rfl,⟨Box.fresh W2 203 (Jq g P Nv),Dq.keep al⟩,JL.2.2,JL.1,JL.2.1,AG.2.trans al⟩
theorem sF (p : Nat) : kQ 152 (aO p) "Has" Bk.has ∧ kQ 152 (aO p) "Use" Bk.use ∧ kQ 152 (aO p) "Add" Bk.add ∧
 kQ 152 (aO p) "Remove" Bk.rem ∧ kQ 152 (aO p) "All" Bk.all ∧ kQ 152 (aO p) "Len" Bk.len :=
 ⟨⟨fun w=>by kernel_rfl,fun a w=>by kernel_rfl⟩,⟨fun w=>by kernel_rfl,fun a w=>by kernel_rfl⟩,⟨fun w=>by kernel_rfl,fun a w=>by kernel_rfl⟩,
  ⟨fun w=>by kernel_rfl,fun a w=>by kernel_rfl⟩,⟨fun w=>by kernel_rfl,fun a w=>by kernel_rfl⟩,⟨fun w=>by kernel_rfl,fun a w=>by kernel_rfl⟩⟩
theorem TE (p g eb:Nat)(hP:P.Ok):OC (XO P) 152 (aO p) Bk (wY p g eb) (mqR p g eb P) where
 KB:=(sF p).1
 Kz:=(sF p).2.1
 KD:=(sF p).2.2.1
 KA:=(sF p).2.2.2.1
 KC:=(sF p).2.2.2.2.1
 ptr:=⟨p,rfl,.inl rfl⟩
 ar:=fun h ho hF=>⟨h.1.ar ho (hF p (.inl rfl)) (hF g (.inr (.inl rfl))) (hF eb (.inr (.inr rfl))),h.2⟩
 lt:=fun h k hk=>by
  rcases hk with rfl|rfl|rfl
  ·exact Box.lt h.1.m
  ·exact h.1.sp.UE.1
  ·exact h.1.sp.UE.2
 has:=fun b h=>(zu b h.1 h.2.ok.dj).mono fun e w' ⟨h1,h2⟩=>⟨h1,h2▸af.ai _ _⟩
 all:=fun h=>TH hP h.1 h.2.ok.dj
 use:=fun {s w b} h hb ha=>by
  have hb:b∈aI P s:=hb;obtain⟨n,rfl⟩:=Int.eq_ofNat_of_zero_le (iL h.2.ok hb).1;have ha:s.now.toNat<1000000000:=ha;exact(Lg hP h.1 h.2.ok aj hb).mono fun e w' ⟨h1,h2,h3⟩=>⟨h1,⟨h2,(zD hP h.2 hb).1⟩,h3⟩
 add:=fun {s w b} h h0 h1 _ ha=>by
  obtain⟨n,rfl⟩:=Int.eq_ofNat_of_zero_le h0;have ha:s.now.toNat<1000000000:=ha;exact(TI hP h.1 h.2 aj aj).mono fun e w' ⟨h2,h3,h4⟩=>⟨h2,⟨h3,(F6 hP h.2 h0 h1).1⟩,h4⟩
 rem:=fun {s w b} h hb=>by
  have hb:b∈aI P s:=hb;obtain⟨n,rfl⟩:=Int.eq_ofNat_of_zero_le (iL h.2.ok hb).1;exact(TD h.1 h.2.ok hb).mono fun e w' ⟨h1,h2,h3⟩=>⟨h1,⟨h2,(FL h.2 hb).1⟩,h3⟩
 lC:=fun h hb=>iL h.2.ok hb
 nodup:=fun h=>eh h.2.ok
 KF:=fun h h0 h1 _=>(F6 hP h.2 h0 h1).2.2
 N7:=fun h hb=>(zD hP h.2 hb).2.2
 Gz:=fun h hb=>(FL h.2 hb).2
 KE:=fun s b=>by
  show(kC P s b).now.toNat≤s.now.toNat+1
  rw[show(kC P s b).now=s.now+1 from sN P _ b];omega
 Ox:=fun s b=>by
  show(cP P s b).1.now.toNat≤s.now.toNat+1
  rw[Qq];omega
 Ow:=fun s b=>Nat.le_refl _
def UC (P:cI)(hP:P.Ok):bj:=⟨cC,Nat×Nat×Nat,XO P,152,Bk,fun i=>aO i.1,fun i=>wY i.1 i.2.1 i.2.2,fun i=>mqR i.1 i.2.1 i.2.2 P,Nv,fun i=>TE i.1 i.2.1 i.2.2 hP,by
 show aI P Nv= []
 cases h:aI P Nv with
 |nil=>rfl
 |cons a l=>
  have:a∈aI P Nv:=by rw[h];exact List.mem_cons_self ..
  obtain⟨i,_,h2⟩:=cw.1 this
  cases h2⟩
end
def dH (c:aQ)(k:Nat):cI:=⟨(c.f (9+k)).toNat,(c.f 12).toNat,(c.f 13).toNat,(c.f 14).toNat⟩
theorem ic {c:aQ}{k:Nat}(hP:dp c)(hk:k<3):(dH c k).Ok:=by
 have h1:=hP.pc k hk;have h2:=hP.QD;have h3:=hP.UA;have h4:=hP.Uz
 constructor<;>simp only[dH]<;>omega
section
theorem PC {c:aQ}{k:Nat}(hP:dp c)(hk:k<3)(hp:c.f 5≠2)(hq:c.f (6+k)=2):(UC (dH c k) (ic hP hk)).Made c (k+1):=by
 intro w A n cp bL;have hPk:=ic hP hk;have hc:=hP.pc k hk;have JB:=hP.QD;have WM:=hP.UA;have h14:=hP.Uz;have HN:=ae<|fun w=>TF (P:=dH c k) hPk w;have e9:c.f (9+k)=((dH c k).cap:Int):=by simp only[dH];omega
 have M8:c.f 12=((dH c k).q:Int):=by simp only[dH];omega
 have Sg:c.f 13=((dH c k).iC:Int):=by simp only[dH];omega
 have WQ:c.f 14=((dH c k).ghost:Int):=by simp only[dH];omega
 have HE:=aq (c.f (9+k)=((dH c k).cap:Int)∧c.f 12=((dH c k).q:Int)∧c.f 13=((dH c k).iC:Int)∧c.f 14=((dH c k).ghost:Int)) (⟨e9,M8,Sg,WQ⟩);have hw:IntKind.i64.wrap (((k+1:Nat):Int) - 1)=k:=by rw[IntKind.wrap_i64];omega
 have Gj:(k:Int)<3:=aj;have HC:=ae<|fun(W:World) (bb:Nat) (hb:Box W bb 25 (ao c (.slice A n cp))) (i:Nat) (hi:i<16)=>hb.ag (aL c (.slice A n cp) hi);have HQ:=ae hq;have me:=ae hp;have HI0:=aq (uH (dH c k) Nv) (Pz _)
 show Calls Tryz.prog 53 #[.agg (ao c (.slice A n cp)),ah ((k+1:Nat):Int)] w (KU (UC (dH c k) hPk) w)
 clear bL hc hq JB WM h14 e9 M8 Sg WQ hp
 go_enter Tryz.func53,Tryz.ntmps53
 go_upto_region 1 with fail;have HB:=ae<|Box.fresh w 25 (ao c (.slice A n cp));have HO:=ae<|(af.ai au w).alloc (.cells (ao c (.slice A n cp)) 25);generalize w.alloc (.cells (ao c (.slice A n cp)) 25)=W1 at *;generalize w.heap.size=bb at *;have c5:=HC.out W1 bb HB 5 aE;have c6:=HC.out W1 bb HB (6+k) aj;have c9:=HC.out W1 bb HB (9+k) aj;have uU:=HC.out W1 bb HB 12 aE;have Sh:=HC.out W1 bb HB 13 aE;have WS:=HC.out W1 bb HB 14 aE;rw[HE.1]at c9;rw[HE.2.1]at uU;rw[HE.2.2.1]at Sh;rw[HE.2.2.2]at WS;rw[HQ.out]at c6;have hq:=me.out;have qY:(c.f 5==2)=false:=by simpa using hq
 generalize c.f 5=f5 at *;have AK:=ae<|HN W1;clear HC HE HN me;go_wp2_with (go_at_call 83;refine AK.mono ?_;rintro e W2 ⟨p,g,eb,rfl,h1,h2,h3,h4,h5⟩);go_ret;have hsz:=HO.size;refine⟨(p,g,eb),rfl,⟨h1,HI0⟩,fun j hj=>?_,HO.trans h5⟩;exact oI
end
end Go.Proofs.YtpcfhbeakecihaaGreat

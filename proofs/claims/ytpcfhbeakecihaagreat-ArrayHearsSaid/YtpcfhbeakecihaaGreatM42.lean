/- Lemmas. -/
import Derived.Test.YtpcfhbeakecihaaGreatM2
import Derived.Test.YtpcfhbeakecihaaGreatM39
set_option linter.all false
set_option maxHeartbeats 20000000
set_option maxRecDepth 100000
namespace Go.Proofs.YtpcfhbeakecihaaGreat
open Go.ChangeShapes Go.RowKit Go.WideShapes
section
variable {sh:Nat→Int}{size:Nat}{d:bC}{wr:Nat→Int}{t:List Int}
def xK (sh:Nat→Int)(size:Nat)(d:bC)(wr:Nat→Int)(t:List Int):bC×Int×Int:=
 if(bD size (d.sec (1+(wr 4).toNat))).1=1000 then
  (if(d.write (bw sh (wr 0) (wr 1)) (bB [(wr 2).toNat,(wr 3).toNat,11])).2≠0 then((d.write (bw sh (wr 0) (wr 1)) (bB [(wr 2).toNat,(wr 3).toNat,11])).1,0,(d.write (bw sh (wr 0) (wr 1)) (bB [(wr 2).toNat,(wr 3).toNat,11])).2)
   else((d.write (bw sh (wr 0) (wr 1)) (bB [(wr 2).toNat,(wr 3).toNat,11])).1,11,0))
 else
  (if(d.write 0 (uq (wr 0).toNat (wr 1).toNat (wr 2).toNat (wr 3).toNat (wr 4).toNat ((bD size (d.sec (1+(wr 4).toNat))).1+1) t)).2≠0 then((d.write 0 (uq (wr 0).toNat (wr 1).toNat (wr 2).toNat (wr 3).toNat (wr 4).toNat ((bD size (d.sec (1+(wr 4).toNat))).1+1) t)).1,0,(d.write 0 (uq (wr 0).toNat (wr 1).toNat (wr 2).toNat (wr 3).toNat (wr 4).toNat ((bD size (d.sec (1+(wr 4).toNat))).1+1) t)).2)
   else((cZ sh (d.write 0 (uq (wr 0).toNat (wr 1).toNat (wr 2).toNat (wr 3).toNat (wr 4).toNat ((bD size (d.sec (1+(wr 4).toNat))).1+1) t)).1 wr t ((bD size (d.sec (1+(wr 4).toNat))).1+1)).1,0,(cZ sh (d.write 0 (uq (wr 0).toNat (wr 1).toNat (wr 2).toNat (wr 3).toNat (wr 4).toNat ((bD size (d.sec (1+(wr 4).toNat))).1+1) t)).1 wr t ((bD size (d.sec (1+(wr 4).toNat))).1+1)).2))
theorem LF (h:(bD size (d.sec (1+(wr 4).toNat))).1≠1000):xK sh size d wr t=if(d.write 0 (uq (wr 0).toNat (wr 1).toNat (wr 2).toNat (wr 3).toNat (wr 4).toNat ((bD size (d.sec (1+(wr 4).toNat))).1+1) t)).2≠0 then((d.write 0 (uq (wr 0).toNat (wr 1).toNat (wr 2).toNat (wr 3).toNat (wr 4).toNat ((bD size (d.sec (1+(wr 4).toNat))).1+1) t)).1,0,(d.write 0 (uq (wr 0).toNat (wr 1).toNat (wr 2).toNat (wr 3).toNat (wr 4).toNat ((bD size (d.sec (1+(wr 4).toNat))).1+1) t)).2)
 else((cZ sh (d.write 0 (uq (wr 0).toNat (wr 1).toNat (wr 2).toNat (wr 3).toNat (wr 4).toNat ((bD size (d.sec (1+(wr 4).toNat))).1+1) t)).1 wr t ((bD size (d.sec (1+(wr 4).toNat))).1+1)).1,0,(cZ sh (d.write 0 (uq (wr 0).toNat (wr 1).toNat (wr 2).toNat (wr 3).toNat (wr 4).toNat ((bD size (d.sec (1+(wr 4).toNat))).1+1) t)).1 wr t ((bD size (d.sec (1+(wr 4).toNat))).1+1)).2):=by
 unfold xK;rw[if_neg h]
theorem ya (h:¬(0≤wr 4∧wr 4<sh 0)):cY sh size d wr t=(d,0,9):=by unfold cY;rw[if_pos h]
theorem D3 (h:0≤wr 4∧wr 4<sh 0)(ht:t.length≠size):cY sh size d wr t=(d,0,10):=by unfold cY;rw[if_neg (fun e=>e h),if_pos ht]
theorem Hn (h:0≤wr 4∧wr 4<sh 0)(ht:t.length=size)(hf:iT sh wr=false):cY sh size d wr t=(d,0,6):=by unfold cY;rw[if_neg (fun e=>e h),if_neg (fun e=>e ht),if_pos hf]
theorem D2 (h:0≤wr 4∧wr 4<sh 0)(ht:t.length=size)(hf:iT sh wr=true):cY sh size d wr t=
 (if wr 2<(cS (d.sec (bw sh (wr 0) (wr 1)))).1∨(wr 2=(cS (d.sec (bw sh (wr 0) (wr 1)))).1∧wr 3<(cS (d.sec (bw sh (wr 0) (wr 1)))).2.1)then(d,0,12)
  else if wr 2=(cS (d.sec (bw sh (wr 0) (wr 1)))).1∧wr 3=(cS (d.sec (bw sh (wr 0) (wr 1)))).2.1 then(d,(((cS (d.sec (bw sh (wr 0) (wr 1)))).2.2:Nat):Int),0)
  else xK sh size d wr t):=by
 unfold cY xK;rw[if_neg (fun e=>e h),if_neg (fun e=>e ht),if_neg (by rw[hf];decide)]
end
section
variable {w:World}{sb db lb:Nat}{V:Nat→Value}{sh:Nat→Int}{d:bC}{wr:Nat→Int}{t:List Int}
theorem hX.keep {w':World}(h:bX w sb db lb V sh d)(ho:af au w w'):hX sb db lb V sh d w w':=⟨V,h.keep ho,fun k hk=>.inl hk,ho.mono fun k hk=>hk.elim⟩
theorem OY {W:World}{g:Nat}(h:Box W g 3 #[.int .i64 (wr 2),.int .i64 (wr 3),.int .i64 11])(hf:iT sh wr=true):Calls Tryz.prog 92 #[.slice (some ⟨g,0,none⟩) 3 3] W (mM (bB [(wr 2).toNat,(wr 3).toNat,11]) W):=by
 obtain⟨_,_,_,_,h4,h5,h6,h7⟩:=ig hf;refine kW [(wr 2).toNat,(wr 3).toNat,11] W (by show 3≤6;decide) (fun k hk=>?_) fun k hk=>?_
 ·have hk:k<3:=hk;rcases(show k=0∨k=1∨k=2 by omega)with rfl|rfl|rfl
  ·show(wr 2).toNat<_;omega
  ·show(wr 3).toNat<_;omega
  ·show 11<_;omega
 ·exact nj
theorem OX {W:World}{g n1:Nat}(hp:Fc sh)(h:Box W g 3 #[.int .i64 (wr 0),.int .i64 (wr 1),.int .i64 (wr 2),.int .i64 (wr 3),.int .i64 (wr 4),.int .i64 ((n1:Int)+1)])(hf:iT sh wr=true)(hb:0≤wr 4∧wr 4<sh 0)(hv:n1+1≤1000):Calls Tryz.prog 92 #[.slice (some ⟨g,0,none⟩) 6 6] W (mM (bB [(wr 0).toNat,(wr 1).toNat,(wr 2).toNat,(wr 3).toNat,(wr 4).toNat,n1+1]) W):=by
 obtain⟨a0,a1,a2,a3,a4,a5,a6,a7⟩:=ig hf;have e0:(((wr 0).toNat:Nat):Int)=wr 0:=aj;have e1:(((wr 1).toNat:Nat):Int)=wr 1:=aj;have e2:(((wr 2).toNat:Nat):Int)=wr 2:=aj;have e3:(((wr 3).toNat:Nat):Int)=wr 3:=aj;have e4:(((wr 4).toNat:Nat):Int)=wr 4:=aj;have p1:=hp.b1;have p2:=hp.c1;have p3:=hp.l1;refine kW [(wr 0).toNat,(wr 1).toNat,(wr 2).toNat,(wr 3).toNat,(wr 4).toNat,n1+1] W (by show 6≤6;decide) (fun k hk=>?_) fun k hk=>?_
 ·have hk:k<6:=hk;rcases(show k=0∨k=1∨k=2∨k=3∨k=4∨k=5 by omega)with rfl|rfl|rfl|rfl|rfl|rfl
  ·show(wr 0).toNat<_;omega
  ·show(wr 1).toNat<_;omega
  ·show(wr 2).toNat<_;omega
  ·show(wr 3).toNat<_;omega
  ·show(wr 4).toNat<_;omega
  ·show n1+1<_;omega
 ·have hk:k<6:=hk;rcases(show k=0∨k=1∨k=2∨k=3∨k=4∨k=5 by omega)with rfl|rfl|rfl|rfl|rfl|rfl
  ·exact⟨g,0,rfl,by show aF W g 0 (((wr 0).toNat:Nat):Int);rw[e0];exact h.ag rfl⟩
  ·exact⟨g,0,rfl,by show aF W g 1 (((wr 1).toNat:Nat):Int);rw[e1];exact h.ag rfl⟩
  ·exact⟨g,0,rfl,by show aF W g 2 (((wr 2).toNat:Nat):Int);rw[e2];exact h.ag rfl⟩
  ·exact⟨g,0,rfl,by show aF W g 3 (((wr 3).toNat:Nat):Int);rw[e3];exact h.ag rfl⟩
  ·exact⟨g,0,rfl,by show aF W g 4 (((wr 4).toNat:Nat):Int);rw[e4];exact h.ag rfl⟩
  ·exact⟨g,0,rfl,h.ag rfl⟩
theorem Ts {W:World}{A:Option Addr}{n c n1:Nat}{dv:Value}(h:Row 5 W (.slice A n c) (bytes (bB [(wr 0).toNat,(wr 1).toNat,(wr 2).toNat,(wr 3).toNat,(wr 4).toNat,n1+1])))(hd:cH W dv t)(ht:t.length≤16):Calls Tryz.prog 91 #[.slice A n c,dv] W (mM (uq (wr 0).toNat (wr 1).toNat (wr 2).toNat (wr 3).toNat (wr 4).toNat (n1+1) t) W):=by
 have:=sV [(wr 0).toNat,(wr 1).toNat,(wr 2).toNat,(wr 3).toNat,(wr 4).toNat,n1+1];have e: [(wr 0).toNat,(wr 1).toNat,(wr 2).toNat,(wr 3).toNat,(wr 4).toNat,n1+1].length=6:=rfl;exact uj _ dv _ t W (h.sa aj) hd aj aj
theorem OW {W:World}{A:Option Addr}{n c:Nat}(h:bX W sb db lb V sh d)(hf:iT sh wr=true)(hr:Row 5 W (.slice A n c) (bytes (bB [(wr 2).toNat,(wr 3).toNat,11])))(hb:∀k,aJ (.slice A n c) k→k≠db):
 Calls Tryz.prog 100 #[.pointer (some ⟨db,0,none⟩),.int .i64 (bw sh (wr 0) (wr 1):Nat),.slice A n c] W fun e w'=>e= .returned (.int .i64 (d.write (bw sh (wr 0) (wr 1)) (bB [(wr 2).toNat,(wr 3).toNat,11])).2)∧hX sb db lb V sh (d.write (bw sh (wr 0) (wr 1)) (bB [(wr 2).toNat,(wr 3).toNat,11])).1 W w':=by
 obtain⟨a0,a1,a2,a3,a4,a5,a6,a7⟩:=ig hf;have hl:=B1 (a:=(wr 2).toNat) (o:=(wr 3).toNat) (n:=11) aj aj aj;refine DK h (vI h.sd a0 a1 a2 a3).2 aj (sH fun x hx=>?_) (hr.sa aj) hb;simp only[List.mem_cons,List.not_mem_nil,or_false]at hx;rcases hx with rfl|rfl|rfl<;>omega
theorem YW {W:World}{A:Option Addr}{n c n1:Nat}(h:bX W sb db lb V sh d)(hf:iT sh wr=true)(yT:0≤wr 4∧wr 4<sh 0)(hv:n1+1≤1000)(ht:t.length≤16)(hB:jX t)(hr:Row 5 W (.slice A n c) (bytes (uq (wr 0).toNat (wr 1).toNat (wr 2).toNat (wr 3).toNat (wr 4).toNat (n1+1) t)))(hb:∀k,aJ (.slice A n c) k→k≠db):
 Calls Tryz.prog 100 #[.pointer (some ⟨db,0,none⟩),.int .i64 0,.slice A n c] W fun e w'=>e= .returned (.int .i64 (d.write 0 (uq (wr 0).toNat (wr 1).toNat (wr 2).toNat (wr 3).toNat (wr 4).toNat (n1+1) t)).2)∧hX sb db lb V sh (d.write 0 (uq (wr 0).toNat (wr 1).toNat (wr 2).toNat (wr 3).toNat (wr 4).toNat (n1+1) t)).1 W w':=by
 obtain⟨a0,a1,a2,a3,a4,a5,a6,a7⟩:=ig hf;have p1:=h.sd.b1;have p2:=h.sd.c1;have p3:=h.sd.l1;have hl:=PT (c:=(wr 0).toNat) (s:=(wr 1).toNat) (a:=(wr 2).toNat) (o:=(wr 3).toNat) (b:=(wr 4).toNat) (v:=n1+1) (t:=t) aj aj aj aj aj hv ht;refine DK (i:=0) h aE aj (sI (sH fun x hx=>?_) (sI (zM aj) hB)) (hr.sa aj) hb;simp only[List.mem_cons,List.not_mem_nil,or_false]at hx;rcases hx with rfl|rfl|rfl|rfl|rfl|rfl<;>omega
theorem n9{P:Prop}(h:P:=by
 refine(OY GL HF).mono ?_;rintro e vD ⟨v18,rfl,hr,ho,hb⟩;obtain⟨A18,c18,e18,wW,ur⟩:=hr.shape;subst e18;clear wW ur;rw[b7]at hr hb
 try rw[b7]
 generalize(bB [(wr 2).toNat,(wr 3).toNat,11]).length=n18 at hr hb ⊢
 replace cj:=aq (Box vD wb 110 (bP wr (.slice A t.length c))) (ho.ak (cj) id)
 replace bQ:=aq (bX vD sb db lb V sh d) ((bQ).keep ho)
 replace cO:=aq (af au w vD) ((cO).trans ho)
 replace dx:=aq (cH vD (.slice A t.length c) t) ((dx).ar ho fun _ _=>id)
 replace GL:=aq (Box vD g17 3 #[.int .i64 (wr 2),.int .i64 (wr 3),.int .i64 11]) (ho.ak (GL) id)
 have abj:=ae hr;have abK:=aq (∀k,aJ (.slice A18 n18 c18) k→w.heap.size≤k) (fun k hk=>Nat.le_trans jd (hb k hk));clear hr ho hb jd;refine dy hK ?_ fun aC=>?_
 ·first|exact wM|exact⟨cj,bQ.ak⟩
 clear hK;refine cX 19 fun Kc hK=>?_
 go_simp;clear aC;have Kj:=ae<|OW bQ HF abj (fun k hk=>by have h1:=abK.out k hk;have h2:=Fs.out;omega);rw[abd.1]at Kj;refine Kj.mono ?_;rintro e WE ⟨rfl,hp⟩;have wM:Box WE wb 110 (bP wr (.slice A t.length c))∧Box WE sb 108 (eK sh db):=by obtain⟨V2,a2,_,o2⟩:=id hp;exact⟨o2.ak cj (fun e=>by have:=Fs.out;have e:wb=db∨wb=lb:=e;omega),a2.ak⟩
 have HP:=ae<|hX.trans bQ (fun k hk=>.inl hk) (cO.mono fun k hk=>hk.elim) hp;clear hp Kj;refine dy hK ?_ fun aC=>?_
 ·first|exact wM|exact⟨cj,bQ.ak⟩
 clear hK;refine dE ?_;have HSF:=ae wM;clear aC wM
 by_cases he:(d.write (bw sh (wr 0) (wr 1)) (bB [(wr 2).toNat,(wr 3).toNat,11])).2=0
 ·have HE:=aq (cY sh size d wr t=((d.write (bw sh (wr 0) (wr 1)) (bB [(wr 2).toNat,(wr 3).toNat,11])).1,11,0)) (by rw[HW0.out];unfold xK;rw[if_pos (by rw[AK.out];exact JD.out),if_neg (fun h=>h he)]);rw[he];clear he;go_wp2_with fail;go_ret2;exact⟨by rw[HE.out];rfl,by rw[HE.out];exact HP⟩
 ·have hen:((d.write (bw sh (wr 0) (wr 1)) (bB [(wr 2).toNat,(wr 3).toNat,11])).2 != 0)=true:=by simpa using he
  have HE:=aq (cY sh size d wr t=((d.write (bw sh (wr 0) (wr 1)) (bB [(wr 2).toNat,(wr 3).toNat,11])).1,0,(d.write (bw sh (wr 0) (wr 1)) (bB [(wr 2).toNat,(wr 3).toNat,11])).2)) (by rw[HW0.out];unfold xK;rw[if_pos (by rw[AK.out];exact JD.out),if_pos he]);clear he;generalize hdw:d.write (bw sh (wr 0) (wr 1)) (bB [(wr 2).toNat,(wr 3).toNat,11])=dw at *;obtain⟨d1,e1⟩:=dw;dsimp only at *;clear hdw;go_wp2_with fail;go_ret2;exact⟨by rw[HE.out];rfl,by rw[HE.out];exact HP⟩):P:=h
theorem jD{P:Prop}(h:P:=by
 intro w hSw;have hq:=hSw.1.ag (i:=5) (v:=(.slice A t.length c)) rfl;clear hSw;go_simp;(try with_reducible rfl)):P:=h
theorem mS{P:Prop}(h:P:=by
 by_cases hv:n1=1000
 ·have JD:=ae hv;have UH:((n1:Int)==1000)=true:=by rw[hv];rfl
  replace cj:=aq (Box W6.drew wb 110 (bP wr (.slice A t.length c))) (cj)
  replace bQ:=ae<|bQ.keep ((af.ai au W6).drew)
  replace cO:=aq (af au w W6.drew) (cO.drew)
  replace dx:=aq (cH W6.drew (.slice A t.length c) t) (dx.ar ((af.ai au W6).drew) fun _ _=>id)
  go_upto_region 16 with fail;refine gg (fun w':World=>Box w' wb 110 (bP wr (.slice A t.length c))∧Box w' sb 108 (eK sh db)) 20 ?_ ?_
  ·first|exact wM|exact⟨cj,bQ.ak⟩
  intro aC;refine bE [0,1,2] ?_;refine aB (i:=3) (v:=.pointer (some ⟨db,0,none⟩)) aS rfl aS (fun _ _ _ h=>h) (.inl ⟨by rfl,?_⟩) aC ?_
  ·intro w hSw;have hq:=hSw.2.ag (i:=4) (v:=.pointer (some ⟨db,0,none⟩)) rfl;clear hSw;go_simp;(try with_reducible rfl)
  refine dU ?_;refine bE [4,5,6] ?_;refine aB (i:=7) (v:=.agg (eu sh)) aS rfl aS (fun _ _ _ h=>h) (yieldsIf_load_mid (by rfl) 74 _ rfl sb 0 rfl (eu sh).toList _ (fun w hw j v hj=>by rw[Nat.zero_add];exact hw.2.ag (eH hj)) Tryz.underlying74 rfl aS) (by assumption) ?_;refine dU ?_;refine bE [8] ?_;refine aB (i:=9) (v:=.int .i64 (wr 0)) aS rfl aS (fun _ _ _ h=>h) (.inl ⟨by rfl,?_⟩) aC ?_
  ·exact jo
  refine dU ?_;refine bE [10] ?_;refine aB (i:=11) (v:=.int .i64 (wr 1)) aS rfl aS (fun _ _ _ h=>h) (.inl ⟨by rfl,?_⟩) aC ?_
  ·exact jy
  refine dU ?_;refine bE [13] ?_;refine aB (i:=14) (v:=.int .i64 (wr 2)) aS rfl aS (fun _ _ _ h=>h) (.inl ⟨by rfl,?_⟩) aC ?_
  ·exact jK
  refine dU ?_;refine bE [15] ?_;refine aB (i:=16) (v:=.int .i64 (wr 3)) aS rfl aS (fun _ _ _ h=>h) (.inl ⟨by rfl,?_⟩) aC ?_
  ·exact jF
  refine dU ?_;refine kE (i:=12) (j:=17) rfl rfl aS (fun Kc hK=>?_) (fun Kc hK=>?_)
  ·go_simp;clear aC;refine(Sp _).mono ?_;rintro e dD ⟨rfl,ho⟩
   replace cj:=aq (Box dD wb 110 (bP wr (.slice A t.length c))) (ho.ak (cj) id)
   replace bQ:=aq (bX dD sb db lb V sh d) ((bQ).keep ho)
   replace cO:=aq (af au w dD) ((cO).trans ho)
   replace dx:=aq (cH dD (.slice A t.length c) t) ((dx).ar ho fun _ _=>id)
   clear ho;refine dy hK ?_ fun aC=>?_
   ·first|exact wM|exact⟨cj,bQ.ak⟩
   clear hK;refine cX 17 fun Kc hK=>?_
   go_simp;clear aC;change Kc _ (dD.alloc (.cells #[.int .i64 (wr 2),.int .i64 (wr 3),.int .i64 11] 3));have ho:=(af.ai au dD).alloc (.cells #[.int .i64 (wr 2),.int .i64 (wr 3),.int .i64 11] 3);have bx:Box (dD.alloc (.cells #[.int .i64 (wr 2),.int .i64 (wr 3),.int .i64 11] 3)) dD.heap.size 3 #[.int .i64 (wr 2),.int .i64 (wr 3),.int .i64 11]:=Box.fresh dD 3 #[.int .i64 (wr 2),.int .i64 (wr 3),.int .i64 11];generalize dD.alloc (.cells #[.int .i64 (wr 2),.int .i64 (wr 3),.int .i64 11] 3)=lA at *
   replace cj:=aq (Box lA wb 110 (bP wr (.slice A t.length c))) (ho.ak (cj) id)
   replace bQ:=aq (bX lA sb db lb V sh d) ((bQ).keep ho)
   replace cO:=aq (af au w lA) ((cO).trans ho)
   replace dx:=aq (cH lA (.slice A t.length c) t) ((dx).ar ho fun _ _=>id)
   generalize dD.heap.size=g17 at *;have GL:=ae bx;clear ho bx;refine dy hK ?_ fun aC=>?_
   ·first|exact wM|exact⟨cj,bQ.ak⟩
   clear hK;refine cX 18 fun Kc hK=>?_
   go_simp;clear aC;have jd:w.heap.size≤lA.heap.size:=cO.size;exact n9
  ·go_simp;clear aC;change Kc _ (W6.drew.alloc (.cells #[.int .i64 (wr 2),.int .i64 (wr 3),.int .i64 11] 3));have ho:=(af.ai au W6.drew).alloc (.cells #[.int .i64 (wr 2),.int .i64 (wr 3),.int .i64 11] 3);have bx:Box (W6.drew.alloc (.cells #[.int .i64 (wr 2),.int .i64 (wr 3),.int .i64 11] 3)) W6.heap.size 3 #[.int .i64 (wr 2),.int .i64 (wr 3),.int .i64 11]:=Box.fresh W6.drew 3 #[.int .i64 (wr 2),.int .i64 (wr 3),.int .i64 11];generalize W6.drew.alloc (.cells #[.int .i64 (wr 2),.int .i64 (wr 3),.int .i64 11] 3)=lA at *
   replace cj:=aq (Box lA wb 110 (bP wr (.slice A t.length c))) (ho.ak (cj) id)
   replace bQ:=aq (bX lA sb db lb V sh d) ((bQ).keep ho)
   replace cO:=aq (af au w lA) ((cO).trans ho)
   replace dx:=aq (cH lA (.slice A t.length c) t) ((dx).ar ho fun _ _=>id)
   generalize W6.heap.size=g17 at *;have GL:=ae bx;clear ho bx;refine dy hK ?_ fun aC=>?_
   ·first|exact wM|exact⟨cj,bQ.ak⟩
   clear hK;refine cX 12 fun Kc hK=>?_
   go_simp;clear aC;refine(Sp _).mono ?_;rintro e dD ⟨rfl,ho⟩
   replace cj:=aq (Box dD wb 110 (bP wr (.slice A t.length c))) (ho.ak (cj) id)
   replace bQ:=aq (bX dD sb db lb V sh d) ((bQ).keep ho)
   replace cO:=aq (af au w dD) ((cO).trans ho)
   replace dx:=aq (cH dD (.slice A t.length c) t) ((dx).ar ho fun _ _=>id)
   replace GL:=aq (Box dD g17 3 #[.int .i64 (wr 2),.int .i64 (wr 3),.int .i64 11]) (ho.ak (GL) id)
   clear ho;refine dy hK ?_ fun aC=>?_
   ·first|exact wM|exact⟨cj,bQ.ak⟩
   clear hK;refine cX 18 fun Kc hK=>?_
   go_simp;clear aC;have jd:w.heap.size≤dD.heap.size:=cO.size;exact n9
 ·have JD:=ae hv;have UH:((n1:Int)==1000)=false:=by simp;omega
  have HV:=ae (show n1+1≤1000 by have:=Fl.out;have:=JD.out;omega);have abW:(n1:Int)<1000:=by have:=HV.out;omega
  have RZ:IntKind.i64.wrap ((n1:Int)+1)=(n1:Int)+1:=by rw[IntKind.wrap_i64];omega
  replace cj:=aq (Box W6.drew wb 110 (bP wr (.slice A t.length c))) (cj)
  replace bQ:=ae<|bQ.keep ((af.ai au W6).drew)
  replace cO:=aq (af au w W6.drew) (cO.drew)
  replace dx:=aq (cH W6.drew (.slice A t.length c) t) (dx.ar ((af.ai au W6).drew) fun _ _=>id)
  go_upto_region 20 with fail;refine gg (fun w':World=>Box w' wb 110 (bP wr (.slice A t.length c))∧Box w' sb 108 (eK sh db)) 17 ?_ ?_
  ·first|exact wM|exact⟨cj,bQ.ak⟩
  intro aC;refine bE [0] ?_;refine aB (i:=1) (v:=.int .i64 (wr 0)) aS rfl aS (fun _ _ _ h=>h) (.inl ⟨by rfl,?_⟩) aC ?_
  ·exact jo
  refine dU ?_;refine bE [2] ?_;refine aB (i:=3) (v:=.int .i64 (wr 1)) aS rfl aS (fun _ _ _ h=>h) (.inl ⟨by rfl,?_⟩) aC ?_
  ·exact jy
  refine dU ?_;refine bE [4] ?_;refine aB (i:=5) (v:=.int .i64 (wr 2)) aS rfl aS (fun _ _ _ h=>h) (.inl ⟨by rfl,?_⟩) aC ?_
  ·exact jK
  refine dU ?_;refine bE [6] ?_;refine aB (i:=7) (v:=.int .i64 (wr 3)) aS rfl aS (fun _ _ _ h=>h) (.inl ⟨by rfl,?_⟩) aC ?_
  ·exact jF
  refine dU ?_;refine bE [8] ?_;refine aB (i:=9) (v:=.int .i64 (wr 4)) aS rfl aS (fun _ _ _ h=>h) (.inl ⟨by rfl,?_⟩) aC ?_
  ·exact di
  refine dU ?_;refine bE [10,11,14] ?_;refine aB (i:=15) (v:=(.slice A t.length c)) aS rfl aS (fun _ _ _ h=>h) (.inl ⟨by rfl,?_⟩) aC ?_
  ·exact jD
  refine dU ?_;refine cX 12 fun Kc hK=>?_
  go_simp;clear aC;change Kc _ (W6.drew.alloc (.cells #[.int .i64 (wr 0),.int .i64 (wr 1),.int .i64 (wr 2),.int .i64 (wr 3),.int .i64 (wr 4),.int .i64 ((n1:Int)+1)] 3));have ho:=(af.ai au W6.drew).alloc (.cells #[.int .i64 (wr 0),.int .i64 (wr 1),.int .i64 (wr 2),.int .i64 (wr 3),.int .i64 (wr 4),.int .i64 ((n1:Int)+1)] 3);have bx:Box (W6.drew.alloc (.cells #[.int .i64 (wr 0),.int .i64 (wr 1),.int .i64 (wr 2),.int .i64 (wr 3),.int .i64 (wr 4),.int .i64 ((n1:Int)+1)] 3)) W6.heap.size 3 #[.int .i64 (wr 0),.int .i64 (wr 1),.int .i64 (wr 2),.int .i64 (wr 3),.int .i64 (wr 4),.int .i64 ((n1:Int)+1)]:=Box.fresh W6.drew 3 #[.int .i64 (wr 0),.int .i64 (wr 1),.int .i64 (wr 2),.int .i64 (wr 3),.int .i64 (wr 4),.int .i64 ((n1:Int)+1)];generalize W6.drew.alloc (.cells #[.int .i64 (wr 0),.int .i64 (wr 1),.int .i64 (wr 2),.int .i64 (wr 3),.int .i64 (wr 4),.int .i64 ((n1:Int)+1)] 3)=dD at *
  replace cj:=aq (Box dD wb 110 (bP wr (.slice A t.length c))) (ho.ak (cj) id)
  replace bQ:=aq (bX dD sb db lb V sh d) ((bQ).keep ho)
  replace cO:=aq (af au w dD) ((cO).trans ho)
  replace dx:=aq (cH dD (.slice A t.length c) t) ((dx).ar ho fun _ _=>id)
  generalize W6.heap.size=g12 at *;have GM:=ae bx;clear ho bx;refine dy hK ?_ fun aC=>?_
  ·first|exact wM|exact⟨cj,bQ.ak⟩
  clear hK;refine cX 13 fun Kc hK=>?_
  go_simp;clear aC;refine(OX bQ.sd GM HF Bd HV).mono ?_;rintro e tu ⟨v13,rfl,hr,ho,hb⟩;obtain⟨A13,Sh,Sg,wW,ur⟩:=hr.shape;subst Sg;clear wW ur;rw[b7]at hr hb
  try rw[b7]
  generalize(bB [(wr 0).toNat,(wr 1).toNat,(wr 2).toNat,(wr 3).toNat,(wr 4).toNat,n1+1]).length=n13 at hr hb ⊢
  replace cj:=aq (Box tu wb 110 (bP wr (.slice A t.length c))) (ho.ak (cj) id)
  replace bQ:=aq (bX tu sb db lb V sh d) ((bQ).keep ho)
  replace cO:=aq (af au w tu) ((cO).trans ho)
  replace dx:=aq (cH tu (.slice A t.length c) t) ((dx).ar ho fun _ _=>id)
  replace GM:=aq (Box tu g12 3 #[.int .i64 (wr 0),.int .i64 (wr 1),.int .i64 (wr 2),.int .i64 (wr 3),.int .i64 (wr 4),.int .i64 ((n1:Int)+1)]) (ho.ak (GM) id)
  have OH:=ae hr;clear hr ho hb;refine dy hK ?_ fun aC=>?_
  ·first|exact wM|exact⟨cj,bQ.ak⟩
  clear hK;refine cX 16 fun Kc hK=>?_
  go_simp;clear aC;have jd:w.heap.size≤tu.heap.size:=cO.size;refine(Ts OH dx AF).mono ?_;rintro e rJ ⟨v16,rfl,hr,ho,hb⟩;obtain⟨A16,M9,e16,wW,ur⟩:=hr.shape;subst e16;clear wW ur;rw[b7]at hr hb
  try rw[b7]
  generalize(uq (wr 0).toNat (wr 1).toNat (wr 2).toNat (wr 3).toNat (wr 4).toNat (n1+1) t).length=n16 at hr hb ⊢
  replace cj:=aq (Box rJ wb 110 (bP wr (.slice A t.length c))) (ho.ak (cj) id)
  replace bQ:=aq (bX rJ sb db lb V sh d) ((bQ).keep ho)
  replace cO:=aq (af au w rJ) ((cO).trans ho)
  replace dx:=aq (cH rJ (.slice A t.length c) t) ((dx).ar ho fun _ _=>id)
  replace GM:=aq (Box rJ g12 3 #[.int .i64 (wr 0),.int .i64 (wr 1),.int .i64 (wr 2),.int .i64 (wr 3),.int .i64 (wr 4),.int .i64 ((n1:Int)+1)]) (ho.ak (GM) id)
  replace OH:=aq (Row 5 rJ (.slice A13 n13 Sh) (bytes (bB [(wr 0).toNat,(wr 1).toNat,(wr 2).toNat,(wr 3).toNat,(wr 4).toNat,n1+1]))) ((OH).ar ho fun _ _=>id)
  have abk:=ae hr;have abL:=aq (∀k,aJ (.slice A16 n16 M9) k→w.heap.size≤k) (fun k hk=>Nat.le_trans jd (hb k hk));clear hr ho hb jd GM OH;refine dy hK ?_ fun aC=>?_
  ·first|exact wM|exact⟨cj,bQ.ak⟩
  clear hK;refine dE ?_;clear aC;generalize rJ=W7 at *;have Kj:=ae<|YW bQ HF Bd HV AF yX abk (fun k hk=>by have h1:=abL.out k hk;have h2:=Fs.out;omega);have y4:=(fj bQ).2.2.2.2;have Sk:=ae<|HW0.trans (LF (by rw[AK.out];exact JD));rw[AK.out]at Sk;go_upto_region 22 with(go_at_call 100;refine Kj.mono ?_;rintro e W8 ⟨rfl,hp⟩;have HP:=ae hp;clear hp);clear y4 Kj;generalize hdw:d.write 0 (uq (wr 0).toNat (wr 1).toNat (wr 2).toNat (wr 3).toNat (wr 4).toNat (n1+1) t)=dw at *;obtain⟨d1,e1⟩:=dw;dsimp only at *;clear hdw
  by_cases he:e1=0
  ·subst he;rw[if_neg (fun h=>h rfl)]at Sk;obtain⟨V1,wU,E8,aK⟩:=HP.out;have py:=aK.ak cj (fun e=>by have:=Fs.out;have e:wb=db∨wb=lb:=e;omega);have abJ:=ae py;have hdt:cH W8 (.slice A t.length c) t:=dx.keep aK fun h0 k hk _ e=>by have:=HDD.out h0 k hk;omega
   have SC:=ae<|BQ wU HF Bd hdt AF yX HV;have me:=aq (∀w',hX sb db lb V1 sh (cZ sh d1 wr t (n1+1)).1 W8 w'→hX sb db lb V sh (cZ sh d1 wr t (n1+1)).1 w w') (fun w' hq=>hX.trans bQ (fun k hk=>.inl hk) (cO.mono fun k hk=>hk.elim) (hX.trans wU E8 aK hq));clear wU E8 aK py hdt HP;rw[show(((n1+1:Nat)):Int)=(n1:Int)+1 from rfl]at SC;go_wp2_with (first|(refine iy (bP wr (.slice A t.length c)) abJ Tryz.underlying110 ?_)|(go_at_call 58;refine SC.mono ?_;rintro e WF ⟨rfl,hq⟩));go_ret2;exact⟨by rw[Sk.out];rfl,by rw[Sk.out];exact me _ hq⟩
  ·have hen:(e1 != 0)=true:=by simpa using he
   rw[if_pos he]at Sk;clear he;go_wp2_with fail;go_ret2;exact⟨by rw[Sk.out];rfl,by rw[Sk.out];exact hX.trans bQ (fun k hk=>.inl hk) (cO.mono fun k hk=>hk.elim) HP⟩):P:=h
theorem dQ{P:Prop}(h:P:=by
 go_wp2_with fail;go_ret2;exact⟨by rw[HE.out];rfl,by rw[HE.out];exact hX.keep HH cO⟩):P:=h
theorem nS{P:Prop}(h:P:=by
 refine dE ?_;clear aC;generalize W1.drew=W2 at *;exact dQ):P:=h
theorem mW{P:Prop}(h:P:=by
 intro w hSw;have hq:=hSw.2.ag (i:=0) (v:=.int .i64 (sh 0)) rfl;clear hSw;go_simp;(try with_reducible rfl)):P:=h
theorem oV{P:Prop}(h:P:=by
 intro w hSw;have hq:=hSw.2.ag (i:=1) (v:=.int .i64 (sh 1)) rfl;clear hSw;go_simp;(try with_reducible rfl)):P:=h
theorem Hd {size:Nat}{A:Option Addr}{n c:Nat}(h:bX w sb db lb V sh d)(hsz:sh 1=size)(hd:cH w (.slice A n c) t)(hB:jX t)(hdd:0<t.length→∀k,aJ (.slice A n c) k→k≠db∧k≠lb):
 Calls Tryz.prog 65 #[.pointer (some ⟨sb,0,none⟩),.agg (bP wr (.slice A n c))] w fun e w'=>e= .returned (.tuple #[.int .i64 (cY sh size d wr t).2.1,.int .i64 (cY sh size d wr t).2.2])∧hX sb db lb V sh (cY sh size d wr t).1 w w':=by
 obtain rfl:=hd.len.1;have HH:=ae h;have Sq:=ae hsz;have yX:=ae hB;have HDD:=ae hdd;have YH:=ae hd;have Xf:=aq (size≤16) (by have:=h.sd.s1;omega);have Tp:=aq (db<w.heap.size∧lb<w.heap.size) (⟨h.lH.lt (.inl rfl),h.lH.lt (.inr (.inl rfl))⟩);clear h hsz hd hB hdd
 go_enter Tryz.func65,Tryz.ntmps65
 go_upto_region 1 with fail;have ho:=(af.ai au w).alloc (.cells (bP wr (.slice A t.length c)) 110);have bx:=Box.fresh w 110 (bP wr (.slice A t.length c));change Code.wp _ _ _ _ (w.alloc (.cells (bP wr (.slice A t.length c)) 110));generalize w.alloc (.cells (bP wr (.slice A t.length c)) 110)=W1 at *;obtain⟨wb,Db⟩:∃wb,wb=w.heap.size:=⟨_,rfl⟩;rw[←Db]at bx ⊢;have Fs:=aq (db<w.heap.size∧lb<w.heap.size∧w.heap.size=wb) (⟨Tp.1,Tp.2,Db.symm⟩);have cj:=ae bx;have bQ:=ae<|HH.keep ho;have cO:=ae ho;have dx:=ae<|YH.ar ho fun _ _=>id;clear ho bx Db Tp YH
 by_cases h0:0≤wr 4
 ·have h0n:¬wr 4<0:=aj
  by_cases h1:wr 4<sh 0
  ·have Bd:=aq (0≤wr 4∧wr 4<sh 0) (⟨h0,h1⟩);have h1n:¬sh 0≤wr 4:=aj
   replace cj:=aq (Box W1.drew wb 110 (bP wr (.slice A t.length c))) (cj)
   replace bQ:=ae<|bQ.keep ((af.ai au W1).drew)
   replace cO:=aq (af au w W1.drew) (cO.drew)
   replace dx:=aq (cH W1.drew (.slice A t.length c) t) (dx.ar ((af.ai au W1).drew) fun _ _=>id)
   go_upto_region 3 with fail;refine gg (fun w':World=>Box w' wb 110 (bP wr (.slice A t.length c))∧Box w' sb 108 (eK sh db)) 13 ?_ ?_
   ·first|exact wM|exact⟨cj,bQ.ak⟩
   intro aC;refine bE [0] ?_;refine aB (i:=1) (v:=.int .i64 (wr 4)) aS rfl aS (fun _ _ _ h=>h) (.inl ⟨by rfl,?_⟩) aC ?_
   ·exact di
   refine dU ?_;refine bE [2,3,4] ?_;refine aB (i:=5) (v:=.int .i64 (wr 4)) aS rfl aS (fun _ _ _ h=>h) (.inl ⟨by rfl,?_⟩) aC ?_
   ·exact di
   refine dU ?_;refine bE [6,7,8,9] ?_;refine aB (i:=10) (v:=.int .i64 (sh 0)) aS rfl aS (fun _ _ _ h=>h) (.inl ⟨by rfl,?_⟩) aC ?_
   ·exact mW
   refine dU ?_;refine bE [11,12] ?_;refine dE ?_;clear aC;generalize W1.drew=W2 at *;clear h0 h0n h1 h1n
   by_cases ht:t.length=size
   ·have HTE:=ae ht;have AF:=aq (t.length≤16) (by have:=Xf.out;omega);have htb:((t.length:Int) != sh 1)=false:=by rw[Sq.out,ht];simp
    clear ht
    replace cj:=aq (Box W2.drew wb 110 (bP wr (.slice A t.length c))) (cj)
    replace bQ:=ae<|bQ.keep ((af.ai au W2).drew)
    replace cO:=aq (af au w W2.drew) (cO.drew)
    replace dx:=aq (cH W2.drew (.slice A t.length c) t) (dx.ar ((af.ai au W2).drew) fun _ _=>id)
    go_upto_region 5 with fail;refine gg (fun w':World=>Box w' wb 110 (bP wr (.slice A t.length c))∧Box w' sb 108 (eK sh db)) 9 ?_ ?_
    ·first|exact wM|exact⟨cj,bQ.ak⟩
    intro aC;refine bE [0] ?_;refine aB (i:=1) (v:=(.slice A t.length c)) aS rfl aS (fun _ _ _ h=>h) (.inl ⟨by rfl,?_⟩) aC ?_
    ·exact jD
    refine dU ?_;refine bE [2,3,4,5,6] ?_;refine aB (i:=7) (v:=.int .i64 (sh 1)) aS rfl aS (fun _ _ _ h=>h) (.inl ⟨by rfl,?_⟩) aC ?_
    ·exact oV
    refine dU ?_;refine bE [8] ?_;refine dE ?_;clear aC;generalize W2.drew=W3 at *;clear htb;have Fo:=ae<|fun w=>Cc (sh:=sh) (wr:=wr) A t.length c w
    cases hf:iT sh wr with
    |false=>
     rw[hf]at Fo;have HE:=ae<|Hn (d:=d) Bd HTE hf;clear hf
     replace cj:=aq (Box W3.drew wb 110 (bP wr (.slice A t.length c))) (cj)
     replace bQ:=ae<|bQ.keep ((af.ai au W3).drew)
     replace cO:=aq (af au w W3.drew) (cO.drew)
     replace dx:=aq (cH W3.drew (.slice A t.length c) t) (dx.ar ((af.ai au W3).drew) fun _ _=>id)
     go_upto_region 7 with fail;refine gg (fun w':World=>Box w' wb 110 (bP wr (.slice A t.length c))∧Box w' sb 108 (eK sh db)) 7 ?_ ?_
     ·first|exact wM|exact⟨cj,bQ.ak⟩
     intro aC;refine bE [0,1,2] ?_;refine aB (i:=3) (v:=.agg (eu sh)) aS rfl aS (fun _ _ _ h=>h) (yieldsIf_load_mid (by rfl) 74 _ rfl sb 0 rfl (eu sh).toList _ (fun w hw j v hj=>by rw[Nat.zero_add];exact hw.2.ag (eH hj)) Tryz.underlying74 rfl aS) (by assumption) ?_;refine dU ?_;refine aB (i:=4) (v:=.agg (bP wr (.slice A t.length c))) aS rfl aS (fun _ _ _ h=>h) (yieldsIf_load_mid (by rfl) 110 _ rfl wb 0 rfl (bP wr (.slice A t.length c)).toList _ (fun w hw j v hj=>by rw[Nat.zero_add];exact hw.1.ag (by rw[←Array.getElem?_toList];exact hj)) Tryz.underlying110 rfl aS) (by assumption) ?_;refine dU ?_;refine cX 5 fun Kc hK=>?_
     go_simp;clear aC;refine(Fo _).mono ?_;rintro e pP ⟨rfl,ho⟩
     replace cj:=aq (Box pP wb 110 (bP wr (.slice A t.length c))) (ho.ak (cj) id)
     replace bQ:=aq (bX pP sb db lb V sh d) ((bQ).keep ho)
     replace cO:=aq (af au w pP) ((cO).trans ho)
     replace dx:=aq (cH pP (.slice A t.length c) t) ((dx).ar ho fun _ _=>id)
     clear ho;refine dy hK ?_ fun aC=>?_
     ·first|exact wM|exact⟨cj,bQ.ak⟩
     clear hK;refine bE [6] ?_;refine dE ?_;clear aC;generalize pP=W4 at *;exact dQ
    |true=>
     rw[hf]at Fo;have HF:=ae hf;have rC:=ae<|D2 (d:=d) Bd HTE hf;obtain⟨f0,f1,f2,f3,_⟩:=ig hf;have abd:=ae<|vI HH.sd f0 f1 f2 f3;have Sp:=ae<|fun w=>rO HH.sd f0 f1 f2 f3 w;have Xx:=aq (0≤wr 0∧wr 0<sh 2∧0≤wr 1∧wr 1<sh 3) (⟨f0,f1,f2,f3⟩);clear hf f0 f1 f2 f3
     replace cj:=aq (Box W3.drew wb 110 (bP wr (.slice A t.length c))) (cj)
     replace bQ:=ae<|bQ.keep ((af.ai au W3).drew)
     replace cO:=aq (af au w W3.drew) (cO.drew)
     replace dx:=aq (cH W3.drew (.slice A t.length c) t) (dx.ar ((af.ai au W3).drew) fun _ _=>id)
     go_upto_region 7 with fail;refine gg (fun w':World=>Box w' wb 110 (bP wr (.slice A t.length c))∧Box w' sb 108 (eK sh db)) 7 ?_ ?_
     ·first|exact wM|exact⟨cj,bQ.ak⟩
     intro aC;refine bE [0,1,2] ?_;refine aB (i:=3) (v:=.agg (eu sh)) aS rfl aS (fun _ _ _ h=>h) (yieldsIf_load_mid (by rfl) 74 _ rfl sb 0 rfl (eu sh).toList _ (fun w hw j v hj=>by rw[Nat.zero_add];exact hw.2.ag (eH hj)) Tryz.underlying74 rfl aS) (by assumption) ?_;refine dU ?_;refine aB (i:=4) (v:=.agg (bP wr (.slice A t.length c))) aS rfl aS (fun _ _ _ h=>h) (yieldsIf_load_mid (by rfl) 110 _ rfl wb 0 rfl (bP wr (.slice A t.length c)).toList _ (fun w hw j v hj=>by rw[Nat.zero_add];exact hw.1.ag (by rw[←Array.getElem?_toList];exact hj)) Tryz.underlying110 rfl aS) (by assumption) ?_;refine dU ?_;refine cX 5 fun Kc hK=>?_
     go_simp;clear aC;refine(Fo _).mono ?_;rintro e pP ⟨rfl,ho⟩
     replace cj:=aq (Box pP wb 110 (bP wr (.slice A t.length c))) (ho.ak (cj) id)
     replace bQ:=aq (bX pP sb db lb V sh d) ((bQ).keep ho)
     replace cO:=aq (af au w pP) ((cO).trans ho)
     replace dx:=aq (cH pP (.slice A t.length c) t) ((dx).ar ho fun _ _=>id)
     clear ho;refine dy hK ?_ fun aC=>?_
     ·first|exact wM|exact⟨cj,bQ.ak⟩
     clear hK;refine bE [6] ?_;refine dE ?_;clear aC;generalize pP=W4 at *;have y0:aF W4 wb 0 (wr 0):=cj.ag rfl;have y1:aF W4 wb 1 (wr 1):=cj.ag rfl;have lD:=ae<|LB Xx.1 Xx.2.1 Xx.2.2.1 Xx.2.2.2 bQ;unfold Ry at lD;generalize cS (d.sec (bw sh (wr 0) (wr 1)))=LO at *;obtain⟨b1,o1,k1⟩:=LO;dsimp only at *;go_upto_region 10 with(go_at_call 99;refine lD.mono ?_;rintro e W5 ⟨rfl,ho⟩)
     replace cj:=ae<|ho.ak cj id
     replace bQ:=ae<|bQ.keep ho
     replace cO:=ae<|cO.trans ho
     replace dx:=ae<|dx.ar ho fun _ _=>id
     clear ho y0 y1 lD Xx;obtain⟨bk,yT⟩:∃bk:Nat,wr 4=bk:=⟨(wr 4).toNat,by have:=Bd.out;omega⟩;have y4:aF W5 wb 4 (bk:Nat):=by rw[←yT];exact cj.ag rfl
     have sg:=xY (b:=bk) (by have:=Bd.out;omega) Sq bQ;rw[show bk=(wr 4).toNat by omega]at sg;have Fl:=ae<|yG size (d.sec (1+(wr 4).toNat));unfold DT at sg;generalize qM:(bD size (d.sec (1+(wr 4).toNat))).1=n1 at sg Fl;have AK:=ae qM;rw[show(wr 4).toNat=bk by omega]at sg;have sg:=ae sg;clear qM yT;go_upto_region 11 with(go_at_call 59;refine sg.mono ?_;rintro e W6 ⟨v,rfl,_,ho,_⟩)
     replace cj:=ae<|ho.ak cj id
     replace bQ:=ae<|bQ.keep ho
     replace cO:=ae<|cO.trans ho
     replace dx:=ae<|dx.ar ho fun _ _=>id
     clear ho y4 sg;have y2:aF W6 wb 2 (wr 2):=cj.ag rfl;have y3:aF W6 wb 3 (wr 3):=cj.ag rfl
     by_cases q1:wr 2<(b1:Int)
     ·have HE:=ae<|rC.trans (if_pos (.inl q1));exact dQ
     ·by_cases q2:wr 2=(b1:Int)
      ·have q2b:(wr 2==(b1:Int))=true:=by rw[q2];simp
       by_cases q3:wr 3<(o1:Int)
       ·have HE:=ae<|rC.trans (if_pos (.inr ⟨q2,q3⟩));clear q2;exact dQ
       ·by_cases q4:wr 3=(o1:Int)
        ·have q4b:(wr 3==(o1:Int))=true:=by rw[q4];simp
         have HE:=ae<|rC.trans ((if_neg (fun h=>h.elim q1 fun h=>q3 h.2)).trans (if_pos ⟨q2,q4⟩));clear q2 q4;exact dQ
        ·have q4b:(wr 3==(o1:Int))=false:=by simpa using q4
         have HW0:=ae<|rC.trans ((if_neg (fun h=>h.elim q1 fun h=>q3 h.2)).trans (if_neg fun h=>q4 h.2));clear q2 q4;exact mS
      ·have q2b:(wr 2==(b1:Int))=false:=by simpa using q2
       have HW0:=ae<|rC.trans ((if_neg (fun h=>h.elim q1 fun h=>q2 h.1)).trans (if_neg fun h=>q2 h.1));clear q2;exact mS
   ·have HE:=ae<|D3 (d:=d) (wr:=wr) Bd ht;have htb:((t.length:Int) != sh 1)=true:=by rw[Sq.out];simpa using fun e:(t.length:Int)=size=>ht aj
    clear ht
    replace cj:=aq (Box W2.drew wb 110 (bP wr (.slice A t.length c))) (cj)
    replace bQ:=ae<|bQ.keep ((af.ai au W2).drew)
    replace cO:=aq (af au w W2.drew) (cO.drew)
    replace dx:=aq (cH W2.drew (.slice A t.length c) t) (dx.ar ((af.ai au W2).drew) fun _ _=>id)
    go_upto_region 5 with fail;refine gg (fun w':World=>Box w' wb 110 (bP wr (.slice A t.length c))∧Box w' sb 108 (eK sh db)) 9 ?_ ?_
    ·first|exact wM|exact⟨cj,bQ.ak⟩
    intro aC;refine bE [0] ?_;refine aB (i:=1) (v:=(.slice A t.length c)) aS rfl aS (fun _ _ _ h=>h) (.inl ⟨by rfl,?_⟩) aC ?_
    ·exact jD
    refine dU ?_;refine bE [2,3,4,5,6] ?_;refine aB (i:=7) (v:=.int .i64 (sh 1)) aS rfl aS (fun _ _ _ h=>h) (.inl ⟨by rfl,?_⟩) aC ?_
    ·exact oV
    refine dU ?_;refine bE [8] ?_;refine dE ?_;clear aC;generalize W2.drew=W3 at *;exact dQ
  ·have HE:=ae<|ya (size:=size) (d:=d) (t:=t) (sh:=sh) (wr:=wr) fun h=>h1 h.2;have h1n:sh 0≤wr 4:=aj
   replace cj:=aq (Box W1.drew wb 110 (bP wr (.slice A t.length c))) (cj)
   replace bQ:=ae<|bQ.keep ((af.ai au W1).drew)
   replace cO:=aq (af au w W1.drew) (cO.drew)
   replace dx:=aq (cH W1.drew (.slice A t.length c) t) (dx.ar ((af.ai au W1).drew) fun _ _=>id)
   go_upto_region 3 with fail;refine gg (fun w':World=>Box w' wb 110 (bP wr (.slice A t.length c))∧Box w' sb 108 (eK sh db)) 13 ?_ ?_
   ·first|exact wM|exact⟨cj,bQ.ak⟩
   intro aC;refine bE [0] ?_;refine aB (i:=1) (v:=.int .i64 (wr 4)) aS rfl aS (fun _ _ _ h=>h) (.inl ⟨by rfl,?_⟩) aC ?_
   ·exact di
   refine dU ?_;refine bE [2,3,4] ?_;refine aB (i:=5) (v:=.int .i64 (wr 4)) aS rfl aS (fun _ _ _ h=>h) (.inl ⟨by rfl,?_⟩) aC ?_
   ·exact di
   refine dU ?_;refine bE [6,7,8,9] ?_;refine aB (i:=10) (v:=.int .i64 (sh 0)) aS rfl aS (fun _ _ _ h=>h) (.inl ⟨by rfl,?_⟩) aC ?_
   ·exact mW
   refine dU ?_;refine bE [11,12] ?_;exact nS
 ·have HE:=ae<|ya (size:=size) (d:=d) (t:=t) (sh:=sh) (wr:=wr) fun h=>h0 h.1;have h0n:wr 4<0:=aj
  replace cj:=aq (Box W1.drew wb 110 (bP wr (.slice A t.length c))) (cj)
  replace bQ:=ae<|bQ.keep ((af.ai au W1).drew)
  replace cO:=aq (af au w W1.drew) (cO.drew)
  replace dx:=aq (cH W1.drew (.slice A t.length c) t) (dx.ar ((af.ai au W1).drew) fun _ _=>id)
  go_upto_region 3 with fail;refine gg (fun w':World=>Box w' wb 110 (bP wr (.slice A t.length c))∧Box w' sb 108 (eK sh db)) 13 ?_ ?_
  ·first|exact wM|exact⟨cj,bQ.ak⟩
  intro aC;refine bE [0] ?_;refine aB (i:=1) (v:=.int .i64 (wr 4)) aS rfl aS (fun _ _ _ h=>h) (.inl ⟨by rfl,?_⟩) aC ?_
  ·exact di
  refine dU ?_;refine Dk [2,3,4,5,6,7,8,9,10,11,12] ?_;exact nS
end
end Go.Proofs.YtpcfhbeakecihaaGreat

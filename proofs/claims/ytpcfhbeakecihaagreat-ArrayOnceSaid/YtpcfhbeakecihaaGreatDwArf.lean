/- texts Arf Arg -/
import Derived.Test.YtpcfhbeakecihaaGreatDwAre
import Derived.Test.YtpcfhbeakecihaaGreatDwArp
import Derived.Test.YtpcfhbeakecihaaGreatM3
import Derived.Test.YtpcfhbeakecihaaGreatM2
import Derived.Test.YtpcfhbeakecihaaGreatM1
import Derived.Test.YtpcfhbeakecihaaGreatM4
import Derived.Test.YtpcfhbeakecihaaGreatM5
set_option linter.all false
set_option maxHeartbeats 20000000
set_option maxRecDepth 100000
namespace Go.Proofs.YtpcfhbeakecihaaGreat
open Go.RowKit Go.ChangeShapes Go.WideShapes
def TelP (Z:ZN)(K:aZ)(c:aN)(a:ArrA K)(M':AMZq K.σ)(T:List PM)(w:World)(e:Ending)(w':World):Prop:=∃v,e= .returned v∧dh Z w' w.heap.size v T∧ArrP Z K c a M' w w'
theorem msg14 (v:Int):bc (mkA 14 0 0 0 0 v 0 false []).m ey=#[ah 14,ah 0,ah 0,ah 0,ah 0,ah v,ah 0,ah 0,ah 0,.bool false,ey]:=rfl
theorem victD_sl {K:aZ}{i:K.ι}{w:World}{cb mb:Nat}{c:aN}{hv:Value}{aw:Nat}{s:K.σ}{D:Int→Option gA}(h:aQ K i w cb mb c hv aw s D)(g:Bool)(v:Int):∃A n m,kx D g v= .slice A n m:=by
 unfold kx
 split
 ·cases hd:D v with
  |none=>exact⟨_,_,_,rfl⟩
  |some p=>
   obtain⟨l,x⟩:=p;obtain⟨_,_,g,ca,e,_⟩:=h.kg v l x hd;exact⟨_,_,_,e⟩
 ·exact⟨_,_,_,rfl⟩
section
variable {Z:ZN}{c:aN}{hP:dJ c}{hk:2<3}{a:ArrA (jW c 2 hP hk)}{M:AMZq (jW c 2 hP hk).σ}{w:World}{b wB:Int}{t:List Int}{dv:Value}
theorem ArrB.put (h:ArrB Z (jW c 2 hP hk) c a M w)(hz:hM c 2 b t.length wB=0)(hB:sm t){w':World}{vv:Value}
 (hc:aQ (jW c 2 hP hk) a.i w' a.cb a.mb c a.hv 3 ((jW c 2 hP hk).sp.add M.s b).1 (Az a.D ((jW c 2 hP hk).sp.add M.s b).2.2 ((jW c 2 hP hk).sp.add M.s b).2.1 b (t,vv))) (hv:∀k,aJ vv k→w.heap.size≤k) (ho:af (xm ((jW c 2 hP hk).F a.i) a.mb) w w'):
 ArrP Z (jW c 2 hP hk) c a (aPutM (jW c 2 hP hk).sp c M b t wB) w w':=by
 have e:aPutM (jW c 2 hP hk).sp c M b t wB= {M with s:=((jW c 2 hP hk).sp.add M.s b).1,D:=aD (if((jW c 2 hP hk).sp.add M.s b).2.2=true then aD M.D ((jW c 2 hP hk).sp.add M.s b).2.1 none else M.D) b (some t)}:=by
  unfold aPutM;rw[if_neg (fun h=>h hz)]
 rw[e];have hold:∀y l v,(if((jW c 2 hP hk).sp.add M.s b).2.2=true then aD a.D ((jW c 2 hP hk).sp.add M.s b).2.1 none else a.D) y=some (l,v)→a.D y=some (l,v):=fun y l v hy=>by
  split at hy
  ·unfold aD at hy
   split at hy
   ·cases hy
   ·exact hy
  ·exact hy
 refine⟨_,a.V,h.cacheS hc ho (fun y=>?_) (fun y l v hy k tQ tP=>?_) (fun y l hy=>?_),ho.mono fun k hk=>.inl (ArrW.cf hk)⟩
 ·unfold Az aD
  by_cases e1:y=b
  ·rw[if_pos e1,if_pos e1];rfl
  ·rw[if_neg e1,if_neg e1]
   by_cases e2:((jW c 2 hP hk).sp.add M.s b).2.2=true
   ·rw[if_pos e2,if_pos e2]
    by_cases e3:y=((jW c 2 hP hk).sp.add M.s b).2.1
    ·rw[if_pos e3,if_pos e3];rfl
    ·rw[if_neg e3,if_neg e3];exact h.dd y
   ·rw[if_neg e2,if_neg e2];exact h.dd y
 ·unfold Az at hy
  by_cases e1:y=b
  ·rw[e1,aD,if_pos rfl]at hy;injection hy with hy;injection hy with _ hy;subst hy;have h1:=h.nlt k tP;have h2:=hv k tQ;omega
  ·rw[aD,if_neg e1]at hy;exact h.dnZq y l v (hold y l v hy) k tQ tP
 ·unfold aD at hy
  split at hy
  ·injection hy with hy;rw[←hy];exact hB
  ·split at hy
   ·have hy:(if y=((jW c 2 hP hk).sp.add M.s b).2.1 then none else M.D y)=some l:=hy
    split at hy
    ·cases hy
    ·exact h.EY y l hy
   ·exact h.EY y l hy
theorem ara_put (h:ArrB Z (jW c 2 hP hk) c a M w)(hd:pZ Z w dv t)(hB:sm t)(qb:(jW c 2 hP hk).sp.sk M.s<jH):
 Calls Tryz.prog 66 #[aI a.ab,ah b,ah wB,dv] w (TelP Z (jW c 2 hP hk) c a (aPutM (jW c 2 hP hk).sp c M b t wB) (aPutT (jW c 2 hP hk).sp c M b t wB) w):=by
 have Qc:ba w a.ab 18 (aI a.cb):=h.az.ag rfl;have x4:aF w a.ab 4 (c.f 4):=h.az.ag (Eo c _ _ _ _ _ _ (by decide));obtain⟨A,n,Ft⟩:=hd.shape;have hoff:0<t.length→∀j,aJ dv j→¬(jW c 2 hP hk).F a.i j∧j≠a.mb:=fun h0 j hj=>by
  have:=h.wr.off (hd.2 h0 j hj) (vn hd.1 h0 j hj);exact⟨fun e=>this (.inl e),fun e=>this (.inr (.inr (.inl e)))⟩
 have HH:=ae h;have HB:=ae hB
 by_cases hc:hM c 2 b t.length wB=0
 ·have hz:=nD hc;have hp3:=hP.p3;have HC:=EG h.cch hd.1 (hoff (by omega)) wB hc qb;have HCO:=ae hc;obtain⟨AvZq,nvZq,mvZq,J1⟩:=victD_sl h.cch ((jW c 2 hP hk).sp.add M.s b).2.2 ((jW c 2 hP hk).sp.add M.s b).2.1;have HT:=aH (aPutT (jW c 2 hP hk).sp c M b t wB=if((jW c 2 hP hk).sp.add M.s b).2.2=true∧c.f 4=1 then[mkA 14 0 0 0 0 ((jW c 2 hP hk).sp.add M.s b).2.1 0 false []]else[]) (by unfold aPutT;rw[if_neg (fun h=>h hc)]);have Dj:=ae (fun w' vv hcc CX ho=>h.put (w':=w') (vv:=vv) hc hB hcc CX ho);have HBND:=aH (b<64∧0≤b) (by have:=hP.p2;omega);subst Ft;unfold nu at HC;rw[J1]at HC;clear J1;generalize(jW c 2 hP hk).sp.add M.s b=r at *;obtain⟨s1,v1,g1⟩:=r;dsimp only at *;have HC:=ae HC;generalize c.f 4=f4 at *;clear h hd hB qb hoff hc hz hp3
  go_enter Tryz.func66,Tryz.ntmps66
  go_upto_region 2 with(first|(go_at_call 101;refine HC.mono ?_;rintro e w1 ⟨vv,rfl,hcc,CX,ho⟩;have Mb:=ae (Dj w1 vv hcc CX ho);have bw:=ae ho;clear hcc CX)|(refine wpList_store_row rfl 87 _ _ rfl w1.heap.size #[ah v1,(.slice AvZq nvZq mvZq)] rfl rfl 87 #[ah 0,ey] (Box.fresh w1 _ _) (by kernel_rfl) rfl (by simp[Value.oneCell']) ?_));have al:=(af.ak aA w1).alloc (.cells #[ah 0,ey] 87);have eC:=ae ((Box.fresh w1 87 #[ah 0,ey]).aK #[ah v1,(.slice AvZq nvZq mvZq)]);have bR:=ae (al.aK (.inr (Nat.le_refl _)) #[ah v1,(.slice AvZq nvZq mvZq)]);clear al;generalize(w1.alloc (.cells #[ah 0,ey] 87)).setRow w1.heap.size #[ah v1,(.slice AvZq nvZq mvZq)]=W2 at *;generalize w1.heap.size=fb at *;have x4:aF W2 a.ab 4 f4:=bR.cell (bw.cell x4 (HH.offF HH.az (by decide))) id;have y0:aF W2 fb 0 v1:=eC.ag rfl
  cases g1 with
  |false=>
   have Pb:=ae (HT.trans (if_neg fun h=>by cases h.1));go_wp2_with fail;go_ret;exact⟨_,rfl,by rw[Pb.out];exact dh.nil _ _ _,Mb.keep bR⟩
  |true=>
   by_cases h4:f4=1
   ·have h4b:(f4==1)=true:=by rw[h4];rfl
    have Pb:=ae (HT.trans (if_pos ⟨rfl,h4⟩));clear h4;go_wp2_with fail;go_ret;have hsz:=bw.size;have pO:=bR.size;exact⟨_,rfl,by rw[Pb.out];exact dh.one (base:=w.heap.size) (mkA 14 0 0 0 0 v1 0 false []) (msg14 v1) (pZ.nil _ _) rfl (by omega),(Mb.keep bR).keep ((af.ak aA W2).alloc _)⟩
   ·have h4b:(f4==1)=false:=by simpa using h4
    have Pb:=ae (HT.trans (if_neg fun h=>h4 h.2));clear h4;go_wp2_with fail;go_ret;exact⟨_,rfl,by rw[Pb.out];exact dh.nil _ _ _,Mb.keep bR⟩
 ·have HC:=zQ h.cch hd.1 wB hc;have HE:=aH (aPutM (jW c 2 hP hk).sp c M b t wB=M∧aPutT (jW c 2 hP hk).sp c M b t wB= []) (⟨by unfold aPutM;rw[if_pos hc],by unfold aPutT;rw[if_pos hc]⟩);rw[HE.1,HE.2];subst Ft;generalize hM c 2 b t.length wB=pc at *;have HC:=ae HC;unfold zF at HC;generalize c.f 4=f4 at *;clear h hd hB qb hoff hc
  go_enter Tryz.func66,Tryz.ntmps66
  go_upto_region 2 with(first|(go_at_call 101;refine HC.mono ?_;rintro e w1 ⟨rfl,ho⟩;have bw:=ae ho;clear ho)|(refine wpList_store_row rfl 87 _ _ rfl w1.heap.size #[ah 0,ey] rfl rfl 87 #[ah 0,ey] (Box.fresh w1 _ _) (by kernel_rfl) rfl (by simp[Value.oneCell']) ?_));have al:=(af.ak aA w1).alloc (.cells #[ah 0,ey] 87);have bR:=ae (bw.trans (al.aK (.inr (Nat.le_refl _)) #[ah 0,ey]));clear al;generalize(w1.alloc (.cells #[ah 0,ey] 87)).setRow w1.heap.size #[ah 0,ey]=W2 at *;go_wp2_with fail;go_ret;exact⟨_,rfl,dh.nil _ _ _,a.D,a.V,HH.keep bR,bR.mono fun k hk=>hk.elim⟩
end
end Go.Proofs.YtpcfhbeakecihaaGreat

namespace Go.Proofs.YtpcfhbeakecihaaGreat
open Go.RowKit Go.ChangeShapes Go.WideShapes
section
variable {Z:ZN}{K:aZ}{c:aN}{a:ArrA K}{M M':AMZq K.σ}{T:List PM}{w w1 w':World}
theorem TelP.back (ho:af aA w w1){e:Ending}(h:TelP Z K c a M' T w1 e w'):TelP Z K c a M' T w e w':=by
 obtain⟨v,h1,h2,h3⟩:=h;exact⟨v,h1,h2.low ho.size,h3.back ho⟩
end
section
variable {Z:ZN}{K:aZ}{c:aN}{a:ArrA K}{M:AMZq K.σ}{w:World}{b wB:Int}{t:List Int}{dv:Value}
theorem ara_dropc (h:ArrB Z K c a M w)(b:Int):Calls Tryz.prog 67 #[aI a.cb,ah b] w fun e w'=>(∃u,e= .returned u)∧ArrP Z K c a (aDropM K.sp M b) w w':=by
 cases hd:a.D b with
 |none=>
  have e:aDropM K.sp M b=M:=by unfold aDropM;rw[if_neg (by rw[h.dd,hd];decide)]
  rw[e];exact(zT h.cch hd).mono fun e w' ⟨he,ho⟩=>⟨⟨_,he⟩,ArrP.nil h ho⟩
 |some p=>
  obtain⟨l,v⟩:=p;have e:aDropM K.sp M b= {M with s:=K.sp.rem M.s b,D:=aD M.D b none}:=by unfold aDropM;rw[if_pos (by rw[h.dd,hd];rfl)]
  rw[e];refine(zU h.cch hd).mono fun e w' ⟨he,hc,_,ho⟩=>⟨⟨_,he⟩,_,a.V,h.cacheS hc ho (fun y=>?_) (fun y l v hy=>?_) (fun y l hy=>?_),ho.mono fun k hk=>.inl (ArrW.cf hk)⟩
  ·unfold aD
   split
   ·rfl
   ·exact h.dd y
  ·unfold aD at hy
   split at hy
   ·cases hy
   ·exact h.dnZq y l v hy
  ·unfold aD at hy
   split at hy
   ·cases hy
   ·exact h.EY y l hy
end
section
variable {Z:ZN}{c:aN}{hP:dJ c}{hk:2<3}{a:ArrA (jW c 2 hP hk)}{M:AMZq (jW c 2 hP hk).σ}{w:World}{b wB:Int}{t:List Int}{dv:Value}
theorem ara_keep (h:ArrB Z (jW c 2 hP hk) c a M w)(hd:pZ Z w dv t)(hB:sm t)(qb:(jW c 2 hP hk).sp.sk M.s<jH):
 Calls Tryz.prog 64 #[aI a.ab,ah b,ah wB,dv] w (TelP Z (jW c 2 hP hk) c a (aKeepM (jW c 2 hP hk).sp c M b t wB) (aKeepT (jW c 2 hP hk).sp c M b t wB) w):=by
 have Qc:ba w a.ab 18 (aI a.cb):=h.az.ag rfl;have x4:aF w a.ab 4 (c.f 4):=h.az.ag (Eo c _ _ _ _ _ _ (by decide));obtain⟨A,n,Ft⟩:=hd.shape;have HH:=ae h
 by_cases h4:c.f 4=2
 ·have tU:=ae (l6 (k:=2) b wB h.cch);rw[h4]at x4
  by_cases hl:wB=3
  ·have Fj:(wB==3)=true:=by rw[hl];rfl
   cases ht:dt c 2 b wB with
   |true=>
    have HPT:=ae (fun w1 ho=>ara_put (b:=b) (wB:=wB) (h.keep (w':=w1) ho) (hd.keep ho) hB qb);have HE:=aH (aKeepM (jW c 2 hP hk).sp c M b t wB=aPutM (jW c 2 hP hk).sp c M b t wB∧aKeepT (jW c 2 hP hk).sp c M b t wB=aPutT (jW c 2 hP hk).sp c M b t wB) (⟨by unfold aKeepM;rw[if_pos (.inr ⟨hl,ht⟩)],by unfold aKeepT;rw[if_pos (.inr ⟨hl,ht⟩)]⟩);rw[ht]at tU;subst Ft;clear h hd hB qb hl ht h4;rw[HE.1,HE.2]
    go_enter Tryz.func64,Tryz.ntmps64
    go_wp2_with (first|(go_at_call 98;refine tU.mono ?_;rintro e w1 ⟨rfl,a8⟩;have bw:=ae a8;have Mb:=ae (HPT w1 a8);clear a8)|(go_at_call 66;refine Mb.mono ?_;rintro e w2 ⟨v,rfl,hm,hp⟩));go_ret;exact TelP.back bw (show TelP Z _ c a _ _ w1 _ w2 from⟨v,rfl,hm,hp⟩)
   |false=>
    have HE:=aH (aKeepM (jW c 2 hP hk).sp c M b t wB=aDropM (jW c 2 hP hk).sp M b∧aKeepT (jW c 2 hP hk).sp c M b t wB= []) (⟨by unfold aKeepM;rw[if_neg (fun e=>e.elim (fun e=>e h4) fun e=>by rw[ht]at e;cases e.2)],by unfold aKeepT;rw[if_neg (fun e=>e.elim (fun e=>e h4) fun e=>by rw[ht]at e;cases e.2)]⟩);have HDP:=ae (fun w1 ho=>ara_dropc (h.keep (w':=w1) ho) b);rw[ht]at tU;subst Ft;clear h hd hB qb hl ht h4;rw[HE.1,HE.2]
    go_enter Tryz.func64,Tryz.ntmps64
    go_wp2_with (first|(go_at_call 98;refine tU.mono ?_;rintro e w1 ⟨rfl,a8⟩;have bw:=ae a8;have zn:=ae (HDP w1 a8);have Qc:ba w1 a.ab 18 (aI a.cb):=(HH.keep a8).az.ag rfl;clear a8)|(go_at_call 67;refine zn.mono ?_;rintro e w2 ⟨⟨u,rfl⟩,hp⟩));go_ret;exact⟨_,rfl,dh.nil _ _ _,hp.back bw⟩
  ·have Fj:(wB==3)=false:=by simpa using hl
   have HE:=aH (aKeepM (jW c 2 hP hk).sp c M b t wB=aDropM (jW c 2 hP hk).sp M b∧aKeepT (jW c 2 hP hk).sp c M b t wB= []) (⟨by unfold aKeepM;rw[if_neg (fun e=>e.elim (fun e=>e h4) fun e=>hl e.1)],by unfold aKeepT;rw[if_neg (fun e=>e.elim (fun e=>e h4) fun e=>hl e.1)]⟩);have HDP:=ae (ara_dropc h b);subst Ft;clear h hd hB qb hl h4;rw[HE.1,HE.2]
   go_enter Tryz.func64,Tryz.ntmps64
   go_wp2_with (go_at_call 67;refine HDP.mono ?_;rintro e w2 ⟨⟨u,rfl⟩,hp⟩);go_ret;exact⟨_,rfl,dh.nil _ _ _,hp⟩
 ·have h4b:(c.f 4 != 2)=true:=by simpa using h4
  have HE:=aH (aKeepM (jW c 2 hP hk).sp c M b t wB=aPutM (jW c 2 hP hk).sp c M b t wB∧aKeepT (jW c 2 hP hk).sp c M b t wB=aPutT (jW c 2 hP hk).sp c M b t wB) (⟨by unfold aKeepM;rw[if_pos (.inl h4)],by unfold aKeepT;rw[if_pos (.inl h4)]⟩);have HPT:=ae (ara_put (b:=b) (wB:=wB) h hd hB qb);subst Ft;rw[HE.1,HE.2];generalize c.f 4=f4 at *;clear h hd hB qb h4
  go_enter Tryz.func64,Tryz.ntmps64
  go_wp2_with (go_at_call 66;refine HPT.mono ?_;rintro e w2 ⟨v,rfl,hm,hp⟩);go_ret;exact⟨v,rfl,hm,hp⟩
end
end Go.Proofs.YtpcfhbeakecihaaGreat

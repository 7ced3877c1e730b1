/- Lemmas. -/
import Derived.Test.YtpcfhbeakecihaaGreatM36
import Derived.Test.YtpcfhbeakecihaaGreatM45
set_option linter.all false
set_option maxHeartbeats 20000000
set_option maxRecDepth 100000
namespace Go.Proofs.YtpcfhbeakecihaaGreat
open Go.ChangeShapes Go.RowKit Go.WideShapes
theorem aeU (m:dI)(l:List Int):mu m m l l=true:=by simp[mu]
def ag2 (n:Nat)(w:World)(iv:Value)(wr:World):Prop:=∃k:Nat,k≤n∧iv=ah k∧af au w wr
section
variable {Z:ZN}{w:World}
theorem afc {b1 b2:Nat}{v1 v2:Value}{L:List PM}(h1:bO Z w b1 v1 L)(h2:bO Z w b2 v2 L):
 Calls Tryz.prog 23 #[v1,v2] w fun e w'=>e= .returned (.bool true)∧af au w w':=by
 obtain⟨A1,c1,rfl,uE,NC⟩:=h1.shape;obtain⟨A2,c2,rfl,qZ,wV⟩:=h2.shape;have hmx:L.length≤9223372036854775807:=by unfold maxLen at NC;omega
 have H1:=ae h1;have H2:=ae h2;have HMX:=ae hmx;clear h1 h2 uE NC qZ wV hmx
 go_enter Tryz.func23,Tryz.ntmps23
 go_upto_region 4 with fail
 go_loopw [5] (fun iv wr=>ag2 L.length w iv wr) (fun iv _=>L.length - (intOf iv).toNat)
 case atStart=>exact⟨0,fH _,rfl,af.ai _ _⟩
 case round=>
  obtain⟨k,hk,rfl,ho⟩:=hrel;have HO:=ae ho;clear ho
  by_cases aY:k<L.length
  ·obtain⟨g1,cp1,adr,m1,e1,y1,d1⟩:=(H1.keep HO).at_ aY;obtain⟨g2,q9,ads,m2,e2,y2,d2⟩:=(H2.keep HO).at_ aY;injection e1 with e1 _ _;injection e2 with e2 _ _;subst e1 e2;have jk:(k:Int)<L.length:=aj;have hk0:(0:Int)≤(k:Int):=Int.natCast_nonneg k;have cD:=ae aY;have hmx:=HMX.out;generalize L.getD k QC=x at *;have HS:=ae fun(W:World) (ho:af au wr W)=>IF x.m x.m adr ads x.d.length m1 x.d.length m2 x.d x.d W (d1.1.keep ho fun _ _ _ _=>id) (d2.1.keep ho fun _ _ _ _=>id)
   rw[aeU]at HS;have adt:=aq (∀j v,(bd x.m (.slice adr x.d.length m1)).toList[j]? =some v→aM wr g1 (k*11+j) v) (fun j v hj=>y1 j v (by rw[←Array.getElem?_toList];exact hj));have adu:=aq (∀j v,(bd x.m (.slice ads x.d.length m2)).toList[j]? =some v→aM wr g2 (k*11+j) v) (fun j v hj=>y2 j v (by rw[←Array.getElem?_toList];exact hj));clear y1 y2 d1 d2 aY hk;go_upto_region 6 with fail;have k1:=fun j v hj=>((af.ai au wr).drew).cell (adt.out j v hj) id
   have k2:=fun j v hj=>((af.ai au wr).drew).cell (adu.out j v hj) id
   go_upto_region 6 with fail;refine gg (fun w':World=>(∀j v,(bd x.m (.slice adr x.d.length m1)).toList[j]? =some v→aM w' g1 (k*11+j) v)∧(∀j v,(bd x.m (.slice ads x.d.length m2)).toList[j]? =some v→aM w' g2 (k*11+j) v)) 9 ?_ ?_
   ·exact⟨k1,k2⟩
   intro aC;refine bE [0,1,2] ?_;refine aB (i:=3) (v:=.agg (bd x.m (.slice adr x.d.length m1))) aS rfl aS (fun _ _ _ h=>h) (yieldsIf_load_mid (by rfl) 37 _ rfl g1 (k*11) rfl (bd x.m (.slice adr x.d.length m1)).toList _ (fun w hw j v hj=>hw.1 j v hj) Tryz.underlying37 rfl aS) (by assumption) ?_;refine dU ?_;refine bE [4,5,6] ?_;refine aB (i:=7) (v:=.agg (bd x.m (.slice ads x.d.length m2))) aS rfl aS (fun _ _ _ h=>h) (yieldsIf_load_mid (by rfl) 37 _ rfl g2 (k*11) rfl (bd x.m (.slice ads x.d.length m2)).toList _ (fun w hw j v hj=>hw.2 j v hj) Tryz.underlying37 rfl aS) (by assumption) ?_;refine dU ?_;refine cX 8 fun K hK=>?_
   go_simp;refine(HS wr.drew ((af.ai au wr).drew)).mono ?_;rintro e W5 ⟨rfl,fz⟩;have Xo:=ae<|((af.ai au wr).drew).trans fz;have k1:=fun j v hj=>fz.cell (k1 j v hj) id
   have k2:=fun j v hj=>fz.cell (k2 j v hj) id
   clear fz;refine dy hK ?_ fun aC=>?_
   ·exact⟨k1,k2⟩
   clear hK;refine dE ?_;clear aC k1 k2;go_wp2
   go_roundw
   case rel=>exact⟨k+1,cD,by go_num,HO.trans Xo⟩
   case measure=>simp[intOf];have:=cD.out;omega
  ·obtain rfl:k=L.length:=aj;clear aY hk;go_wp2;go_ret;exact⟨rfl,HO⟩
end
end Go.Proofs.YtpcfhbeakecihaaGreat

/- Lemmas. -/
import Derived.Test.YtchofaecncibjaaGreatM10
import Derived.Test.YtchofaecncibjaaGreatM33
import Derived.Test.YtchofaecncibjaaGreatM36
set_option linter.all false
set_option maxHeartbeats 20000000
set_option maxRecDepth 100000
namespace Go.Proofs.YtchofaecncibjaaGreat
section
open Go.ChangeShapes Go.RowKit Go.WideShapes
def oB (m:di):List Int:=[m.f 1,m.f 2,m.f 3,m.f 4,m.f 5,m.f 6,m.f 7,m.f 8]
def nW (m m':di)(l l':List Int):Bool:=decide (m.f 0=m'.f 0)&&(decide (oB m=oB m')&&(decide (m.g=m'.g)&&decide (l=l')))
section
theorem sJ{P:Prop}(h:P:=by
 have hi:i<8:=hi;rw[Nat.zero_add];rcases(show i=0∨i=1∨i=2∨i=3∨i=4∨i=5∨i=6∨i=7 by omega)with rfl|rfl|rfl|rfl|rfl|rfl|rfl|rfl<;>exact h.af rfl):P:=h
theorem BV (m:di)(A:Option Addr)(n c:Nat)(w:World):Calls Tryz.prog 91 #[.agg (aP m (.slice A n c))] w fun e w'=>∃g,e= .returned (aU g 8 8)∧gl w' (aU g 8 8) (oB m)∧ag az w w':=by
 have HB:=ae<|Box.fresh w 37 (aP m (.slice A n c));have HO:=ae<|(ag.aj az w).alloc (.cells (aP m (.slice A n c)) 37)
 go_enter Tryz.func91,Tryz.ntmps91
 go_upto_region 1 with fail;change Code.wp _ _ _ _ (w.alloc (.cells (aP m (.slice A n c)) 37));generalize w.alloc (.cells (aP m (.slice A n c)) 37)=W at *;generalize w.heap.size=b at *;have x1:aw W b 1 (m.f 1):=HB.af rfl;have x2:aw W b 2 (m.f 2):=HB.af rfl;have x3:aw W b 3 (m.f 3):=HB.af rfl;have x4:aw W b 4 (m.f 4):=HB.af rfl;have x5:aw W b 5 (m.f 5):=HB.af rfl;have x6:aw W b 6 (m.f 6):=HB.af rfl;have x7:aw W b 7 (m.f 7):=HB.af rfl;have x8:aw W b 8 (m.f 8):=HB.af rfl;clear HB;go_wp2;go_ret;have h:=Box.fresh W 3 #[ah (m.f 1),ah (m.f 2),ah (m.f 3),ah (m.f 4),ah (m.f 5),ah (m.f 6),ah (m.f 7),ah (m.f 8)];refine⟨W.heap.size,rfl,⟨some ⟨W.heap.size,0,none⟩,8,rfl,dm _,aD,fun i hi=>⟨W.heap.size,0,rfl,?_⟩⟩,HO.alloc _⟩;exact sJ
theorem mi{P:Prop}(h:P:=by
 go_wp2_with (first|(go_at_call 27;refine HS.mono ?_;rintro e W3 ⟨rfl,q3,rfl⟩)|(go_at_call 56;refine(xE _ _ l l' _ (HY3.aA ((ag.aj az _).drewN q3) fun _ _=>id) (HZ3.aA ((ag.aj az _).drewN q3) fun _ _=>id)).mono ?_;rintro e W4 ⟨rfl,q4,rfl⟩));go_ret;exact⟨by rw[HE.out];rfl,bf.drewN _⟩):P:=h
theorem Pb (m m':di)(A B:Option Addr)(n c n' c':Nat)(l l':List Int)(w:World)(ha:nD w (.slice A n c) l)(hb:nD w (.slice B n' c') l'):
 Calls Tryz.prog 94 #[.agg (aP m (.slice A n c)),.agg (aP m' (.slice B n' c'))] w fun e w'=>e= .returned (.bool (nW m m' l l'))∧ag az w w':=by
 have HY:=ae ha;have HZ:=ae hb;clear ha hb;have bU:=ae<|Box.fresh w 37 (aP m (.slice A n c));have al1:=(ag.aj az w).alloc (.cells (aP m (.slice A n c)) 37);have cO:=ae<|Box.fresh (w.alloc (.cells (aP m (.slice A n c)) 37)) 37 (aP m' (.slice B n' c'));have al2:=(ag.aj az (w.alloc (.cells (aP m (.slice A n c)) 37))).alloc (.cells (aP m' (.slice B n' c')) 37);rw[show(w.alloc (.cells (aP m (.slice A n c)) 37)).heap.size=w.heap.size+1 by simp]at cO;have k7:=ae<|al2.aq bU id;have HO:=ae<|al1.trans al2;clear al1 al2 bU
 go_enter Tryz.func94,Tryz.ntmps94
 go_upto_region 1 with fail;change Code.wp _ _ _ _ ((w.alloc (.cells (aP m (.slice A n c)) 37)).alloc (.cells (aP m' (.slice B n' c')) 37));generalize(w.alloc (.cells (aP m (.slice A n c)) 37)).alloc (.cells (aP m' (.slice B n' c')) 37)=W at *;have HY1:=ae<|HY.aA HO fun _ _=>id;have HZ1:=ae<|HZ.aA HO fun _ _=>id;generalize w.heap.size=b at *;clear HY HZ;go_upto_region 2 with(first|(refine fH (aP m (.slice A n c)) k7 Tryz.underlying37 ?_)|(go_at_call 91;refine(BV m A n c _).mono ?_;rintro e W1 ⟨g1,rfl,C4,aR⟩));have lL:=ae C4;have ky:=ae<|aR.aq k7 id;have dM:=ae<|aR.aq cO id;have aX:=ae<|HO.trans aR;have HY2:=ae<|HY1.aA aR fun _ _=>id;have Yv:=ae<|HZ1.aA aR fun _ _=>id;clear C4 aR k7 cO HO HY1 HZ1;go_upto_region 3 with(first|(refine fH (aP m' (.slice B n' c')) dM Tryz.underlying37 ?_)|(go_at_call 91;refine(BV m' B n' c' _).mono ?_;rintro e W2 ⟨g2,rfl,J6,bp⟩));have HS:=ae<|Dq _ _ 8 8 8 8 (oB m) (oB m') W2 (lL.keep bp fun _ _ _ _ _=>id) J6 aD aD;have x0:aw W2 b 0 (m.f 0):=(bp.aq ky id).af rfl;have x9:aE W2 b 9 (.bool m.g):=(bp.aq ky id).af rfl;have vx:aE W2 b 10 (.slice A n c):=(bp.aq ky id).af rfl;have y0:aw W2 (b+1) 0 (m'.f 0):=(bp.aq dM id).af rfl;have y9:aE W2 (b+1) 9 (.bool m'.g):=(bp.aq dM id).af rfl;have P6:aE W2 (b+1) 10 (.slice B n' c'):=(bp.aq dM id).af rfl;have bf:=ae<|aX.trans bp;have HY3:=ae<|HY2.aA bp fun _ _=>id;have HZ3:=ae<|Yv.aA bp fun _ _=>id;have HM:=aB (nW m m' l l'=(decide (m.f 0=m'.f 0)&&(decide (oB m=oB m')&&(decide (m.g=m'.g)&&decide (l=l'))))) (rfl);clear J6 bp ky dM aX HY2 Yv lL;generalize C0:decide (oB m=oB m')=k1 at *;clear C0;generalize m.f 0=f0 at *;generalize m'.f 0=f0' at *;generalize m.g=gm at *;generalize m'.g=gm' at *
 by_cases h0:f0=f0'
 ·subst h0
  cases k1 with
  |true=>
   by_cases hg:gm=gm'
   ·subst hg;have QO:(gm==gm)=true:=by simp
    have HE:=ae (show nW m m' l l'=decide (l=l') by rw[HM.out];simp);exact mi
   ·have QO:(gm==gm')=false:=by simpa using hg
    have HE:=ae (show nW m m' l l'=false by rw[HM.out];simp[hg]);clear hg;exact mi
  |false=>
   have HE:=ae (show nW m m' l l'=false by rw[HM.out];simp);exact mi
 ·have gu:(f0==f0')=false:=by simpa using h0
  have HE:=ae (show nW m m' l l'=false by rw[HM.out];simp[h0]);clear h0;go_wp2_with (first|(go_at_call 27;refine HS.mono ?_;rintro e W3 ⟨rfl,q3,rfl⟩)|(go_at_call 56;refine(xE _ _ l l' _ (HY3.aA ((ag.aj az _).drewN q3) fun _ _=>id) (HZ3.aA ((ag.aj az _).drewN q3) fun _ _=>id)).mono ?_;rintro e W4 ⟨rfl,q4,rfl⟩));go_ret;exact⟨by rw[HE.out];rfl,bf⟩
end
end
section
open Go.RowKit
def lO (k:Int):List Int:=((List.range 11).filter fun i=>(oO k).testBit i).map Int.ofNat
section
theorem TL (w:World):Calls Tryz.prog 92 #[] w fun e w'=>∃g,e= .returned (aU g 8 8)∧gl w' (aU g 8 8) [3,3,1099511627776,1099511627776,31,4,1099511627776,16]∧ag az w w':=by
 go_enter Tryz.func92,Tryz.ntmps92
 go_wp2;go_ret;have h:=Box.fresh w 3 #[ah 3,ah 3,ah 1099511627776,ah 1099511627776,ah 31,ah 4,ah 1099511627776,ah 16];refine⟨w.heap.size,rfl,⟨some ⟨w.heap.size,0,none⟩,8,rfl,dm _,aD,fun i hi=>⟨w.heap.size,0,rfl,?_⟩⟩,(ag.aj az w).alloc _⟩;exact sJ
def vR (k:Int)(w:World)(e:Ending)(w':World):Prop:=∃g n,e= .returned (aU g n n)∧gl w' (aU g n n) (lO k)∧1≤n∧n≤7∧n=(lO k).length∧ag az w w'
theorem Ua (w:World):Calls Tryz.prog 90 #[ah 1] w (vR 1 w):=by
 go_enter Tryz.func90,Tryz.ntmps90
 go_wp2;go_ret;have h:=Box.fresh w 3 #[ah 2,ah 4,ah 5,ah 6];have hf:lO 1= [2,4,5,6]:=aD;refine⟨w.heap.size,4,rfl,?_,aD,aD,by rw[hf];rfl,(ag.aj az w).alloc _⟩;rw[hf];refine⟨some ⟨w.heap.size,0,none⟩,4,rfl,dm _,aD,fun i hi=>⟨w.heap.size,0,rfl,?_⟩⟩;have hi:i<4:=hi;rw[Nat.zero_add];rcases(show i=0∨i=1∨i=2∨i=3 by omega)with rfl|rfl|rfl|rfl
 all_goals exact h.af rfl
theorem T9 (w:World):Calls Tryz.prog 90 #[ah 2] w (vR 2 w):=by
 go_enter Tryz.func90,Tryz.ntmps90
 go_wp2;go_ret;have h:=Box.fresh w 3 #[ah 2,ah 4,ah 5,ah 6,ah 10];have hf:lO 2= [2,4,5,6,10]:=aD;refine⟨w.heap.size,5,rfl,?_,aD,aD,by rw[hf];rfl,(ag.aj az w).alloc _⟩;rw[hf];refine⟨some ⟨w.heap.size,0,none⟩,5,rfl,dm _,aD,fun i hi=>⟨w.heap.size,0,rfl,?_⟩⟩;have hi:i<5:=hi;rw[Nat.zero_add];rcases(show i=0∨i=1∨i=2∨i=3∨i=4 by omega)with rfl|rfl|rfl|rfl|rfl
 all_goals exact h.af rfl
theorem l7{P:Prop}(h:P:=by
 refine⟨w.heap.size,3,rfl,?_,aD,aD,by rw[hf];rfl,(ag.aj az w).alloc _⟩;rw[hf];refine⟨some ⟨w.heap.size,0,none⟩,3,rfl,dm _,aD,fun i hi=>⟨w.heap.size,0,rfl,?_⟩⟩;have hi:i<3:=hi;rw[Nat.zero_add];rcases(show i=0∨i=1∨i=2 by omega)with rfl|rfl|rfl
 all_goals exact h.af rfl):P:=h
theorem T8 (w:World):Calls Tryz.prog 90 #[ah 3] w (vR 3 w):=by
 go_enter Tryz.func90,Tryz.ntmps90
 go_wp2;go_ret;have h:=Box.fresh w 3 #[ah 5,ah 6,ah 10];have hf:lO 3= [5,6,10]:=aD;exact l7
theorem ml{P:Prop}(h:P:=by
 refine⟨w.heap.size,2,rfl,?_,aD,aD,by rw[hf];rfl,(ag.aj az w).alloc _⟩;rw[hf];refine⟨some ⟨w.heap.size,0,none⟩,2,rfl,dm _,aD,fun i hi=>⟨w.heap.size,0,rfl,?_⟩⟩;have hi:i<2:=hi;rw[Nat.zero_add];rcases(show i=0∨i=1 by omega)with rfl|rfl
 all_goals exact h.af rfl):P:=h
theorem T7 (w:World):Calls Tryz.prog 90 #[ah 4] w (vR 4 w):=by
 go_enter Tryz.func90,Tryz.ntmps90
 go_wp2;go_ret;have h:=Box.fresh w 3 #[ah 5,ah 7];have hf:lO 4= [5,7]:=aD;exact ml
theorem mr{P:Prop}(h:P:=by
 refine⟨w.heap.size,7,rfl,?_,aD,aD,by rw[hf];rfl,(ag.aj az w).alloc _⟩;rw[hf];refine⟨some ⟨w.heap.size,0,none⟩,7,rfl,dm _,aD,fun i hi=>⟨w.heap.size,0,rfl,?_⟩⟩;have hi:i<7:=hi;rw[Nat.zero_add];rcases(show i=0∨i=1∨i=2∨i=3∨i=4∨i=5∨i=6 by omega)with rfl|rfl|rfl|rfl|rfl|rfl|rfl
 all_goals exact h.af rfl):P:=h
theorem T6 (w:World):Calls Tryz.prog 90 #[ah 5] w (vR 5 w):=by
 go_enter Tryz.func90,Tryz.ntmps90
 go_wp2;go_ret;have h:=Box.fresh w 3 #[ah 2,ah 4,ah 5,ah 6,ah 8,ah 9,ah 10];have hf:lO 5= [2,4,5,6,8,9,10]:=aD;exact mr
theorem T5 (w:World):Calls Tryz.prog 90 #[ah 6] w (vR 6 w):=by
 go_enter Tryz.func90,Tryz.ntmps90
 go_wp2;go_ret;have h:=Box.fresh w 3 #[ah 2,ah 4,ah 5,ah 6,ah 8,ah 9];have hf:lO 6= [2,4,5,6,8,9]:=aD;refine⟨w.heap.size,6,rfl,?_,aD,aD,by rw[hf];rfl,(ag.aj az w).alloc _⟩;rw[hf];refine⟨some ⟨w.heap.size,0,none⟩,6,rfl,dm _,aD,fun i hi=>⟨w.heap.size,0,rfl,?_⟩⟩;have hi:i<6:=hi;rw[Nat.zero_add];rcases(show i=0∨i=1∨i=2∨i=3∨i=4∨i=5 by omega)with rfl|rfl|rfl|rfl|rfl|rfl
 all_goals exact h.af rfl
theorem T4 (w:World):Calls Tryz.prog 90 #[ah 7] w (vR 7 w):=by
 go_enter Tryz.func90,Tryz.ntmps90
 go_wp2;go_ret;have h:=Box.fresh w 3 #[ah 5,ah 7];have hf:lO 7= [5,7]:=aD;exact ml
theorem T3 (w:World):Calls Tryz.prog 90 #[ah 8] w (vR 8 w):=by
 go_enter Tryz.func90,Tryz.ntmps90
 go_wp2;go_ret;have h:=Box.fresh w 3 #[ah 5,ah 6];have hf:lO 8= [5,6]:=aD;exact ml
theorem T2 (w:World):Calls Tryz.prog 90 #[ah 9] w (vR 9 w):=by
 go_enter Tryz.func90,Tryz.ntmps90
 go_wp2;go_ret;have h:=Box.fresh w 3 #[ah 1,ah 2,ah 3,ah 4,ah 5,ah 6,ah 10];have hf:lO 9= [1,2,3,4,5,6,10]:=aD;exact mr
theorem PI (w:World):Calls Tryz.prog 90 #[ah 10] w (vR 10 w):=by
 go_enter Tryz.func90,Tryz.ntmps90
 go_wp2;go_ret;have h:=Box.fresh w 3 #[ah 5,ah 6,ah 10];have hf:lO 10= [5,6,10]:=aD;exact l7
theorem sD{P:Prop}(h:P:=by
 refine⟨w.heap.size,1,rfl,?_,aD,aD,by rw[hf];rfl,(ag.aj az w).alloc _⟩;rw[hf];refine⟨some ⟨w.heap.size,0,none⟩,1,rfl,dm _,aD,fun i hi=>⟨w.heap.size,0,rfl,?_⟩⟩;have hi:i<1:=hi;rw[Nat.zero_add];obtain rfl:i=0:=ao
 all_goals exact h.af rfl):P:=h
theorem PH (w:World):Calls Tryz.prog 90 #[ah 11] w (vR 11 w):=by
 go_enter Tryz.func90,Tryz.ntmps90
 go_wp2;go_ret;have h:=Box.fresh w 3 #[ah 5];have hf:lO 11= [5]:=aD;exact sD
theorem PG (w:World):Calls Tryz.prog 90 #[ah 12] w (vR 12 w):=by
 go_enter Tryz.func90,Tryz.ntmps90
 go_wp2;go_ret;have h:=Box.fresh w 3 #[ah 5,ah 8,ah 10];have hf:lO 12= [5,8,10]:=aD;exact l7
theorem PF (w:World):Calls Tryz.prog 90 #[ah 13] w (vR 13 w):=by
 go_enter Tryz.func90,Tryz.ntmps90
 go_wp2;go_ret;have h:=Box.fresh w 3 #[ah 1,ah 2,ah 3,ah 4,ah 5,ah 8,ah 9];have hf:lO 13= [1,2,3,4,5,8,9]:=aD;exact mr
theorem PE (w:World):Calls Tryz.prog 90 #[ah 14] w (vR 14 w):=by
 go_enter Tryz.func90,Tryz.ntmps90
 go_wp2;go_ret;have h:=Box.fresh w 3 #[ah 5];have hf:lO 14= [5]:=aD;exact sD
theorem LW {k:Int}(hk:1≤k∧k≤14)(w:World):Calls Tryz.prog 90 #[ah k] w (vR k w):=by
 rcases(show k=1∨k=2∨k=3∨k=4∨k=5∨k=6∨k=7∨k=8∨k=9∨k=10∨k=11∨k=12∨k=13∨k=14 by omega)with rfl|rfl|rfl|rfl|rfl|rfl|rfl|rfl|rfl|rfl|rfl|rfl|rfl|rfl
 ·exact Ua w
 ·exact T9 w
 ·exact T8 w
 ·exact T7 w
 ·exact T6 w
 ·exact T5 w
 ·exact T4 w
 ·exact T3 w
 ·exact T2 w
 ·exact PI w
 ·exact PH w
 ·exact PG w
 ·exact PF w
 ·exact PE w
theorem PD {k:Int}(hk:¬(1≤k∧k≤14))(w:World):Calls Tryz.prog 90 #[ah k] w fun e w'=>e= .returned aJ∧w=w':=by
 have c1:(k==1)=false:=by have:¬k=1:=ao;simpa using this
 have c2:(k==2)=false:=by have:¬k=2:=ao;simpa using this
 have c3:(k==3)=false:=by have:¬k=3:=ao;simpa using this
 have c4:(k==4)=false:=by have:¬k=4:=ao;simpa using this
 have c5:(k==5)=false:=by have:¬k=5:=ao;simpa using this
 have c6:(k==6)=false:=by have:¬k=6:=ao;simpa using this
 have c7:(k==7)=false:=by have:¬k=7:=ao;simpa using this
 have c8:(k==8)=false:=by have:¬k=8:=ao;simpa using this
 have c9:(k==9)=false:=by have:¬k=9:=ao;simpa using this
 have Vl:(k==10)=false:=by have:¬k=10:=ao;simpa using this
 have Z2:(k==11)=false:=by have:¬k=11:=ao;simpa using this
 have c12:(k==12)=false:=by have:¬k=12:=ao;simpa using this
 have c13:(k==13)=false:=by have:¬k=13:=ao;simpa using this
 have c14:(k==14)=false:=by have:¬k=14:=ao;simpa using this
 clear hk
 go_enter Tryz.func90,Tryz.ntmps90
 go_wp2;go_ret;exact⟨rfl,rfl⟩
end
end
theorem rV{P:Prop}(h:P:=by
 rcases(show k=0∨k=1∨k=2∨k=3∨k=4∨k=5∨k=6∨k=7 by omega)with rfl|rfl|rfl|rfl|rfl|rfl|rfl|rfl<;>rfl):P:=h
theorem O6 (m:di){k:Nat}(hk:k<8):(oB m).getD k 0=m.f (k+1):=by
 exact rV
def adU:List Int:=[3,3,1099511627776,1099511627776,31,4,1099511627776,16]
theorem Xe {k:Nat}(hk:k<8):adU.getD k 0=RB (k+1):=by
 exact rV
theorem B5 {kd:Int}{f:Nat}(hf:f<11):((f:Int)∈lO kd)↔(oO kd).testBit f=true:=by
 unfold lO;rw[List.mem_map]
 constructor
 ·rintro⟨i,hi,e⟩;have e:i=f:=Int.ofNat.inj e;subst e;exact(List.mem_filter.1 hi).2
 ·intro h;exact⟨f,List.mem_filter.2 ⟨List.mem_range.2 hf,h⟩,rfl⟩
theorem Pz {m:di}{n k:Nat}(hk:k<8):iH m n (k+1)=(decide (0≤m.f (k+1))&&decide (m.f (k+1)≤RB (k+1))&&((oO (m.f 0)).testBit (k+1)||(m.f (k+1)==0))):=by
 unfold iH okF Hc;rw[if_neg ao,if_neg ao,if_neg ao,if_neg ao]
theorem Xz {m:di}{n:Nat}:iH m n 9=((oO (m.f 0)).testBit 9|| !m.g):=rfl
theorem XA {m:di}{n:Nat}:iH m n 10=(decide ((n:Int)≤64)&&((oO (m.f 0)).testBit 10||((n:Int)==0))):=rfl
end Go.Proofs.YtchofaecncibjaaGreat

/- Lemmas. -/
import Derived.Test.YtpcfhbeakecihaaGreatM10
import Derived.Test.YtpcfhbeakecihaaGreatM33
import Derived.Test.YtpcfhbeakecihaaGreatM37
set_option linter.all false
set_option maxHeartbeats 20000000
set_option maxRecDepth 100000
namespace Go.Proofs.YtpcfhbeakecihaaGreat
section
open Go.ChangeShapes Go.RowKit Go.WideShapes
def ly (m:dI):List Int:=[m.f 1,m.f 2,m.f 3,m.f 4,m.f 5,m.f 6,m.f 7,m.f 8]
def mu (m m':dI)(l l':List Int):Bool:=decide (m.f 0=m'.f 0)&&(decide (ly m=ly m')&&(decide (m.g=m'.g)&&decide (l=l')))
section
theorem oZ{P:Prop}(h:P:=by
 have hi:i<8:=hi;rw[Nat.zero_add];rcases(show i=0∨i=1∨i=2∨i=3∨i=4∨i=5∨i=6∨i=7 by omega)with rfl|rfl|rfl|rfl|rfl|rfl|rfl|rfl<;>exact h.ag rfl):P:=h
theorem vN (m:dI)(A:Option Addr)(n c:Nat)(w:World):Calls Tryz.prog 50 #[.agg (bd m (.slice A n c))] w fun e w'=>∃g,e= .returned (bp g 8 8)∧eF w' (bp g 8 8) (ly m)∧af au w w':=by
 have HB:=ae<|Box.fresh w 37 (bd m (.slice A n c));have HO:=ae<|(af.ai au w).alloc (.cells (bd m (.slice A n c)) 37)
 go_enter Tryz.func50,Tryz.ntmps50
 go_upto_region 1 with fail;change Code.wp _ _ _ _ (w.alloc (.cells (bd m (.slice A n c)) 37));generalize w.alloc (.cells (bd m (.slice A n c)) 37)=W at *;generalize w.heap.size=b at *;have x1:aF W b 1 (m.f 1):=HB.ag rfl;have x2:aF W b 2 (m.f 2):=HB.ag rfl;have x3:aF W b 3 (m.f 3):=HB.ag rfl;have x4:aF W b 4 (m.f 4):=HB.ag rfl;have x5:aF W b 5 (m.f 5):=HB.ag rfl;have x6:aF W b 6 (m.f 6):=HB.ag rfl;have x7:aF W b 7 (m.f 7):=HB.ag rfl;have x8:aF W b 8 (m.f 8):=HB.ag rfl;clear HB;go_wp2;go_ret;have h:=Box.fresh W 3 #[ah (m.f 1),ah (m.f 2),ah (m.f 3),ah (m.f 4),ah (m.f 5),ah (m.f 6),ah (m.f 7),ah (m.f 8)];refine⟨W.heap.size,rfl,⟨some ⟨W.heap.size,0,none⟩,8,rfl,dX _,aE,fun i hi=>⟨W.heap.size,0,rfl,?_⟩⟩,HO.alloc _⟩;exact oZ
theorem jq{P:Prop}(h:P:=by
 go_wp2_with (first|(go_at_call 20;refine HS.mono ?_;rintro e W3 ⟨rfl,q3,rfl⟩)|(go_at_call 15;refine(BS _ _ l l' _ (HY3.ar ((af.ai au _).drewN q3) fun _ _=>id) (HZ3.ar ((af.ai au _).drewN q3) fun _ _=>id)).mono ?_;rintro e W4 ⟨rfl,q4,rfl⟩));go_ret;exact⟨by rw[HE.out];rfl,bu.drewN _⟩):P:=h
theorem IF (m m':dI)(A B:Option Addr)(n c n' c':Nat)(l l':List Int)(w:World)(ha:cH w (.slice A n c) l)(hb:cH w (.slice B n' c') l'):
 Calls Tryz.prog 28 #[.agg (bd m (.slice A n c)),.agg (bd m' (.slice B n' c'))] w fun e w'=>e= .returned (.bool (mu m m' l l'))∧af au w w':=by
 have HY:=ae ha;have HZ:=ae hb;clear ha hb;have b8:=ae<|Box.fresh w 37 (bd m (.slice A n c));have l8:=(af.ai au w).alloc (.cells (bd m (.slice A n c)) 37);have dG:=ae<|Box.fresh (w.alloc (.cells (bd m (.slice A n c)) 37)) 37 (bd m' (.slice B n' c'));have s9:=(af.ai au (w.alloc (.cells (bd m (.slice A n c)) 37))).alloc (.cells (bd m' (.slice B n' c')) 37);rw[show(w.alloc (.cells (bd m (.slice A n c)) 37)).heap.size=w.heap.size+1 by simp]at dG;have iR:=ae<|s9.ak b8 id;have HO:=ae<|l8.trans s9;clear l8 s9 b8
 go_enter Tryz.func28,Tryz.ntmps28
 go_upto_region 1 with fail;change Code.wp _ _ _ _ ((w.alloc (.cells (bd m (.slice A n c)) 37)).alloc (.cells (bd m' (.slice B n' c')) 37));generalize(w.alloc (.cells (bd m (.slice A n c)) 37)).alloc (.cells (bd m' (.slice B n' c')) 37)=W at *;have HY1:=ae<|HY.ar HO fun _ _=>id;have HZ1:=ae<|HZ.ar HO fun _ _=>id;generalize w.heap.size=b at *;clear HY HZ;go_upto_region 2 with(first|(refine iy (bd m (.slice A n c)) iR Tryz.underlying37 ?_)|(go_at_call 50;refine(vN m A n c _).mono ?_;rintro e W1 ⟨g1,rfl,Wl,aK⟩));have Vv:=ae Wl;have gj:=ae<|aK.ak iR id;have hG:=ae<|aK.ak dG id;have bc:=ae<|HO.trans aK;have HY2:=ae<|HY1.ar aK fun _ _=>id;have JC:=ae<|HZ1.ar aK fun _ _=>id;clear Wl aK iR dG HO HY1 HZ1;go_upto_region 3 with(first|(refine iy (bd m' (.slice B n' c')) hG Tryz.underlying37 ?_)|(go_at_call 50;refine(vN m' B n' c' _).mono ?_;rintro e W2 ⟨g2,rfl,Wk,bq⟩));have HS:=ae<|xt _ _ 8 8 8 8 (ly m) (ly m') W2 (Vv.keep bq fun _ _ _ _ _=>id) Wk aE aE;have x0:aF W2 b 0 (m.f 0):=(bq.ak gj id).ag rfl;have x9:aM W2 b 9 (.bool m.g):=(bq.ak gj id).ag rfl;have x10:aM W2 b 10 (.slice A n c):=(bq.ak gj id).ag rfl;have y0:aF W2 (b+1) 0 (m'.f 0):=(bq.ak hG id).ag rfl;have y9:aM W2 (b+1) 9 (.bool m'.g):=(bq.ak hG id).ag rfl;have y10:aM W2 (b+1) 10 (.slice B n' c'):=(bq.ak hG id).ag rfl;have bu:=ae<|bc.trans bq;have HY3:=ae<|HY2.ar bq fun _ _=>id;have HZ3:=ae<|JC.ar bq fun _ _=>id;have HM:=aq (mu m m' l l'=(decide (m.f 0=m'.f 0)&&(decide (ly m=ly m')&&(decide (m.g=m'.g)&&decide (l=l'))))) (rfl);clear Wk bq gj hG bc HY2 JC Vv;generalize E8:decide (ly m=ly m')=k1 at *;clear E8;generalize m.f 0=f0 at *;generalize m'.f 0=f0' at *;generalize m.g=gm at *;generalize m'.g=gm' at *
 by_cases h0:f0=f0'
 ·subst h0
  cases k1 with
  |true=>
   by_cases hg:gm=gm'
   ·subst hg;have hgb:(gm==gm)=true:=by simp
    have HE:=ae (show mu m m' l l'=decide (l=l') by rw[HM.out];simp);exact jq
   ·have hgb:(gm==gm')=false:=by simpa using hg
    have HE:=ae (show mu m m' l l'=false by rw[HM.out];simp[hg]);clear hg;exact jq
  |false=>
   have HE:=ae (show mu m m' l l'=false by rw[HM.out];simp);exact jq
 ·have iQ:(f0==f0')=false:=by simpa using h0
  have HE:=ae (show mu m m' l l'=false by rw[HM.out];simp[h0]);clear h0;go_wp2_with (first|(go_at_call 20;refine HS.mono ?_;rintro e W3 ⟨rfl,q3,rfl⟩)|(go_at_call 15;refine(BS _ _ l l' _ (HY3.ar ((af.ai au _).drewN q3) fun _ _=>id) (HZ3.ar ((af.ai au _).drewN q3) fun _ _=>id)).mono ?_;rintro e W4 ⟨rfl,q4,rfl⟩));go_ret;exact⟨by rw[HE.out];rfl,bu⟩
end
end
section
open Go.RowKit
def jl (k:Int):List Int:=((List.range 11).filter fun i=>(lK k).testBit i).map Int.ofNat
section
theorem Mc (w:World):Calls Tryz.prog 72 #[] w fun e w'=>∃g,e= .returned (bp g 8 8)∧eF w' (bp g 8 8) [3,3,1099511627776,1099511627776,31,4,1099511627776,16]∧af au w w':=by
 go_enter Tryz.func72,Tryz.ntmps72
 go_wp2;go_ret;have h:=Box.fresh w 3 #[ah 3,ah 3,ah 1099511627776,ah 1099511627776,ah 31,ah 4,ah 1099511627776,ah 16];refine⟨w.heap.size,rfl,⟨some ⟨w.heap.size,0,none⟩,8,rfl,dX _,aE,fun i hi=>⟨w.heap.size,0,rfl,?_⟩⟩,(af.ai au w).alloc _⟩;exact oZ
def rG (k:Int)(w:World)(e:Ending)(w':World):Prop:=∃g n,e= .returned (bp g n n)∧eF w' (bp g n n) (jl k)∧1≤n∧n≤7∧n=(jl k).length∧af au w w'
theorem MH (w:World):Calls Tryz.prog 71 #[ah 1] w (rG 1 w):=by
 go_enter Tryz.func71,Tryz.ntmps71
 go_wp2;go_ret;have h:=Box.fresh w 3 #[ah 2,ah 4,ah 5,ah 6];have hf:jl 1= [2,4,5,6]:=aE;refine⟨w.heap.size,4,rfl,?_,aE,aE,by rw[hf];rfl,(af.ai au w).alloc _⟩;rw[hf];refine⟨some ⟨w.heap.size,0,none⟩,4,rfl,dX _,aE,fun i hi=>⟨w.heap.size,0,rfl,?_⟩⟩;have hi:i<4:=hi;rw[Nat.zero_add];rcases(show i=0∨i=1∨i=2∨i=3 by omega)with rfl|rfl|rfl|rfl
 all_goals exact h.ag rfl
theorem MG (w:World):Calls Tryz.prog 71 #[ah 2] w (rG 2 w):=by
 go_enter Tryz.func71,Tryz.ntmps71
 go_wp2;go_ret;have h:=Box.fresh w 3 #[ah 2,ah 4,ah 5,ah 6,ah 10];have hf:jl 2= [2,4,5,6,10]:=aE;refine⟨w.heap.size,5,rfl,?_,aE,aE,by rw[hf];rfl,(af.ai au w).alloc _⟩;rw[hf];refine⟨some ⟨w.heap.size,0,none⟩,5,rfl,dX _,aE,fun i hi=>⟨w.heap.size,0,rfl,?_⟩⟩;have hi:i<5:=hi;rw[Nat.zero_add];rcases(show i=0∨i=1∨i=2∨i=3∨i=4 by omega)with rfl|rfl|rfl|rfl|rfl
 all_goals exact h.ag rfl
theorem jz{P:Prop}(h:P:=by
 refine⟨w.heap.size,3,rfl,?_,aE,aE,by rw[hf];rfl,(af.ai au w).alloc _⟩;rw[hf];refine⟨some ⟨w.heap.size,0,none⟩,3,rfl,dX _,aE,fun i hi=>⟨w.heap.size,0,rfl,?_⟩⟩;have hi:i<3:=hi;rw[Nat.zero_add];rcases(show i=0∨i=1∨i=2 by omega)with rfl|rfl|rfl
 all_goals exact h.ag rfl):P:=h
theorem MF (w:World):Calls Tryz.prog 71 #[ah 3] w (rG 3 w):=by
 go_enter Tryz.func71,Tryz.ntmps71
 go_wp2;go_ret;have h:=Box.fresh w 3 #[ah 5,ah 6,ah 10];have hf:jl 3= [5,6,10]:=aE;exact jz
theorem jN{P:Prop}(h:P:=by
 refine⟨w.heap.size,2,rfl,?_,aE,aE,by rw[hf];rfl,(af.ai au w).alloc _⟩;rw[hf];refine⟨some ⟨w.heap.size,0,none⟩,2,rfl,dX _,aE,fun i hi=>⟨w.heap.size,0,rfl,?_⟩⟩;have hi:i<2:=hi;rw[Nat.zero_add];rcases(show i=0∨i=1 by omega)with rfl|rfl
 all_goals exact h.ag rfl):P:=h
theorem ME (w:World):Calls Tryz.prog 71 #[ah 4] w (rG 4 w):=by
 go_enter Tryz.func71,Tryz.ntmps71
 go_wp2;go_ret;have h:=Box.fresh w 3 #[ah 5,ah 7];have hf:jl 4= [5,7]:=aE;exact jN
theorem jP{P:Prop}(h:P:=by
 refine⟨w.heap.size,7,rfl,?_,aE,aE,by rw[hf];rfl,(af.ai au w).alloc _⟩;rw[hf];refine⟨some ⟨w.heap.size,0,none⟩,7,rfl,dX _,aE,fun i hi=>⟨w.heap.size,0,rfl,?_⟩⟩;have hi:i<7:=hi;rw[Nat.zero_add];rcases(show i=0∨i=1∨i=2∨i=3∨i=4∨i=5∨i=6 by omega)with rfl|rfl|rfl|rfl|rfl|rfl|rfl
 all_goals exact h.ag rfl):P:=h
theorem MD (w:World):Calls Tryz.prog 71 #[ah 5] w (rG 5 w):=by
 go_enter Tryz.func71,Tryz.ntmps71
 go_wp2;go_ret;have h:=Box.fresh w 3 #[ah 2,ah 4,ah 5,ah 6,ah 8,ah 9,ah 10];have hf:jl 5= [2,4,5,6,8,9,10]:=aE;exact jP
theorem MC (w:World):Calls Tryz.prog 71 #[ah 6] w (rG 6 w):=by
 go_enter Tryz.func71,Tryz.ntmps71
 go_wp2;go_ret;have h:=Box.fresh w 3 #[ah 2,ah 4,ah 5,ah 6,ah 8,ah 9];have hf:jl 6= [2,4,5,6,8,9]:=aE;refine⟨w.heap.size,6,rfl,?_,aE,aE,by rw[hf];rfl,(af.ai au w).alloc _⟩;rw[hf];refine⟨some ⟨w.heap.size,0,none⟩,6,rfl,dX _,aE,fun i hi=>⟨w.heap.size,0,rfl,?_⟩⟩;have hi:i<6:=hi;rw[Nat.zero_add];rcases(show i=0∨i=1∨i=2∨i=3∨i=4∨i=5 by omega)with rfl|rfl|rfl|rfl|rfl|rfl
 all_goals exact h.ag rfl
theorem MB (w:World):Calls Tryz.prog 71 #[ah 7] w (rG 7 w):=by
 go_enter Tryz.func71,Tryz.ntmps71
 go_wp2;go_ret;have h:=Box.fresh w 3 #[ah 5,ah 7];have hf:jl 7= [5,7]:=aE;exact jN
theorem MA (w:World):Calls Tryz.prog 71 #[ah 8] w (rG 8 w):=by
 go_enter Tryz.func71,Tryz.ntmps71
 go_wp2;go_ret;have h:=Box.fresh w 3 #[ah 5,ah 6];have hf:jl 8= [5,6]:=aE;exact jN
theorem Mz (w:World):Calls Tryz.prog 71 #[ah 9] w (rG 9 w):=by
 go_enter Tryz.func71,Tryz.ntmps71
 go_wp2;go_ret;have h:=Box.fresh w 3 #[ah 1,ah 2,ah 3,ah 4,ah 5,ah 6,ah 10];have hf:jl 9= [1,2,3,4,5,6,10]:=aE;exact jP
theorem I8 (w:World):Calls Tryz.prog 71 #[ah 10] w (rG 10 w):=by
 go_enter Tryz.func71,Tryz.ntmps71
 go_wp2;go_ret;have h:=Box.fresh w 3 #[ah 5,ah 6,ah 10];have hf:jl 10= [5,6,10]:=aE;exact jz
theorem oX{P:Prop}(h:P:=by
 refine⟨w.heap.size,1,rfl,?_,aE,aE,by rw[hf];rfl,(af.ai au w).alloc _⟩;rw[hf];refine⟨some ⟨w.heap.size,0,none⟩,1,rfl,dX _,aE,fun i hi=>⟨w.heap.size,0,rfl,?_⟩⟩;have hi:i<1:=hi;rw[Nat.zero_add];obtain rfl:i=0:=aj
 all_goals exact h.ag rfl):P:=h
theorem I7 (w:World):Calls Tryz.prog 71 #[ah 11] w (rG 11 w):=by
 go_enter Tryz.func71,Tryz.ntmps71
 go_wp2;go_ret;have h:=Box.fresh w 3 #[ah 5];have hf:jl 11= [5]:=aE;exact oX
theorem I6 (w:World):Calls Tryz.prog 71 #[ah 12] w (rG 12 w):=by
 go_enter Tryz.func71,Tryz.ntmps71
 go_wp2;go_ret;have h:=Box.fresh w 3 #[ah 5,ah 8,ah 10];have hf:jl 12= [5,8,10]:=aE;exact jz
theorem I5 (w:World):Calls Tryz.prog 71 #[ah 13] w (rG 13 w):=by
 go_enter Tryz.func71,Tryz.ntmps71
 go_wp2;go_ret;have h:=Box.fresh w 3 #[ah 1,ah 2,ah 3,ah 4,ah 5,ah 8,ah 9];have hf:jl 13= [1,2,3,4,5,8,9]:=aE;exact jP
theorem I4 (w:World):Calls Tryz.prog 71 #[ah 14] w (rG 14 w):=by
 go_enter Tryz.func71,Tryz.ntmps71
 go_wp2;go_ret;have h:=Box.fresh w 3 #[ah 5];have hf:jl 14= [5]:=aE;exact oX
theorem EH {k:Int}(hk:1≤k∧k≤14)(w:World):Calls Tryz.prog 71 #[ah k] w (rG k w):=by
 rcases(show k=1∨k=2∨k=3∨k=4∨k=5∨k=6∨k=7∨k=8∨k=9∨k=10∨k=11∨k=12∨k=13∨k=14 by omega)with rfl|rfl|rfl|rfl|rfl|rfl|rfl|rfl|rfl|rfl|rfl|rfl|rfl|rfl
 ·exact MH w
 ·exact MG w
 ·exact MF w
 ·exact ME w
 ·exact MD w
 ·exact MC w
 ·exact MB w
 ·exact MA w
 ·exact Mz w
 ·exact I8 w
 ·exact I7 w
 ·exact I6 w
 ·exact I5 w
 ·exact I4 w
theorem I3 {k:Int}(hk:¬(1≤k∧k≤14))(w:World):Calls Tryz.prog 71 #[ah k] w fun e w'=>e= .returned aT∧w=w':=by
 have c1:(k==1)=false:=by have:¬k=1:=aj;simpa using this
 have c2:(k==2)=false:=by have:¬k=2:=aj;simpa using this
 have c3:(k==3)=false:=by have:¬k=3:=aj;simpa using this
 have c4:(k==4)=false:=by have:¬k=4:=aj;simpa using this
 have c5:(k==5)=false:=by have:¬k=5:=aj;simpa using this
 have c6:(k==6)=false:=by have:¬k=6:=aj;simpa using this
 have c7:(k==7)=false:=by have:¬k=7:=aj;simpa using this
 have c8:(k==8)=false:=by have:¬k=8:=aj;simpa using this
 have c9:(k==9)=false:=by have:¬k=9:=aj;simpa using this
 have c10:(k==10)=false:=by have:¬k=10:=aj;simpa using this
 have c11:(k==11)=false:=by have:¬k=11:=aj;simpa using this
 have uU:(k==12)=false:=by have:¬k=12:=aj;simpa using this
 have Sh:(k==13)=false:=by have:¬k=13:=aj;simpa using this
 have WS:(k==14)=false:=by have:¬k=14:=aj;simpa using this
 clear hk
 go_enter Tryz.func71,Tryz.ntmps71
 go_wp2;go_ret;exact⟨rfl,rfl⟩
end
end
theorem oA{P:Prop}(h:P:=by
 rcases(show k=0∨k=1∨k=2∨k=3∨k=4∨k=5∨k=6∨k=7 by omega)with rfl|rfl|rfl|rfl|rfl|rfl|rfl|rfl<;>rfl):P:=h
theorem IA (m:dI){k:Nat}(hk:k<8):(ly m).getD k 0=m.f (k+1):=by
 exact oA
def Y4:List Int:=[3,3,1099511627776,1099511627776,31,4,1099511627776,16]
theorem PD {k:Nat}(hk:k<8):Y4.getD k 0=Ov (k+1):=by
 exact oA
theorem vS {kd:Int}{f:Nat}(hf:f<11):((f:Int)∈jl kd)↔(lK kd).testBit f=true:=by
 unfold jl;rw[List.mem_map]
 constructor
 ·rintro⟨i,hi,e⟩;have e:i=f:=Int.ofNat.inj e;subst e;exact(List.mem_filter.1 hi).2
 ·intro h;exact⟨f,List.mem_filter.2 ⟨List.mem_range.2 hf,h⟩,rfl⟩
theorem IZ {m:dI}{n k:Nat}(hk:k<8):ia m n (k+1)=(decide (0≤m.f (k+1))&&decide (m.f (k+1)≤Ov (k+1))&&((lK (m.f 0)).testBit (k+1)||(m.f (k+1)==0))):=by
 unfold ia okF BA;rw[if_neg aj,if_neg aj,if_neg aj,if_neg aj]
theorem P0 {m:dI}{n:Nat}:ia m n 9=((lK (m.f 0)).testBit 9|| !m.g):=rfl
theorem P1 {m:dI}{n:Nat}:ia m n 10=(decide ((n:Int)≤64)&&((lK (m.f 0)).testBit 10||((n:Int)==0))):=rfl
end Go.Proofs.YtpcfhbeakecihaaGreat

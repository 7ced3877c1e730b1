/- Lemmas. -/
import Derived.Test.YtpcfhbeakecihaaGreatM2
import Derived.Test.YtpcfhbeakecihaaGreatM10
import Derived.Test.YtpcfhbeakecihaaGreatM12
import Derived.Test.YtpcfhbeakecihaaGreatM36
import Derived.Deep.CutRange
set_option linter.all false
set_option maxHeartbeats 20000000
set_option maxRecDepth 100000
namespace Go.Proofs.YtpcfhbeakecihaaGreat
open Go.ChangeShapes Go.RowKit Go.WideShapes
def eP (m:ec):List Int:=[m.f 1,m.f 2,m.f 3,m.f 4,m.f 5,m.f 6,m.f 7,m.f 8]
def eR (m m':ec)(l l':List Int):Bool:=decide (m.f 0=m'.f 0)&&(decide (eP m=eP m')&&(decide (m.g=m'.g)&&decide (l=l')))
section
theorem oL (m:ec)(A:Option Addr)(n c:Nat)(w:World):Calls Tryz.prog 50 #[.agg (bc m (.slice A n c))] w fun e w'=>∃g,e= .returned (cS g 8 8)∧cD w' (cS g 8 8) (eP m)∧af aA w w':=by
 have HB:=ae<|Box.fresh w 37 (bc m (.slice A n c));have HO:=ae<|(af.ak aA w).alloc (.cells (bc m (.slice A n c)) 37)
 go_enter Tryz.func50,Tryz.ntmps50
 go_upto_region 1 with fail;change Code.wp _ _ _ _ (w.alloc (.cells (bc m (.slice A n c)) 37));generalize w.alloc (.cells (bc m (.slice A n c)) 37)=W at *;generalize w.heap.size=b at *;have x1:aF W b 1 (m.f 1):=HB.ag rfl;have x2:aF W b 2 (m.f 2):=HB.ag rfl;have x3:aF W b 3 (m.f 3):=HB.ag rfl;have x4:aF W b 4 (m.f 4):=HB.ag rfl;have x5:aF W b 5 (m.f 5):=HB.ag rfl;have x6:aF W b 6 (m.f 6):=HB.ag rfl;have x7:aF W b 7 (m.f 7):=HB.ag rfl;have x8:aF W b 8 (m.f 8):=HB.ag rfl;clear HB;go_wp2;go_ret;have h:=Box.fresh W 3 #[ah (m.f 1),ah (m.f 2),ah (m.f 3),ah (m.f 4),ah (m.f 5),ah (m.f 6),ah (m.f 7),ah (m.f 8)];refine⟨W.heap.size,rfl,⟨some ⟨W.heap.size,0,none⟩,8,rfl,dT _,av,fun i hi=>⟨W.heap.size,0,rfl,?_⟩⟩,HO.alloc _⟩;have hi:i<8:=hi;rw[Nat.zero_add];rcases(show i=0∨i=1∨i=2∨i=3∨i=4∨i=5∨i=6∨i=7 by omega)with rfl|rfl|rfl|rfl|rfl|rfl|rfl|rfl<;>exact h.ag rfl
theorem dw{P:Prop}(h:P:=by
 go_wp2_with (first|(go_at_call 20;refine HS.mono ?_;rintro e W3 ⟨rfl,q3,rfl⟩)|(go_at_call 15;refine(oG _ _ l l' _ (LU.ao ((af.ak aA _).drewN q3) fun _ _=>id) (LR.ao ((af.ak aA _).drewN q3) fun _ _=>id)).mono ?_;rintro e W4 ⟨rfl,q4,rfl⟩));go_ret;exact⟨by rw[HE.out];rfl,bR.drewN _⟩):P:=h
theorem tk (m m':ec)(A B:Option Addr)(n c n' c':Nat)(l l':List Int)(w:World)(ha:b8 w (.slice A n c) l)(hb:b8 w (.slice B n' c') l'):
 Calls Tryz.prog 28 #[.agg (bc m (.slice A n c)),.agg (bc m' (.slice B n' c'))] w fun e w'=>e= .returned (.bool (eR m m' l l'))∧af aA w w':=by
 have HY:=ae ha;have HZ:=ae hb;clear ha hb;have cQ:=ae<|Box.fresh w 37 (bc m (.slice A n c));have ku:=(af.ak aA w).alloc (.cells (bc m (.slice A n c)) 37);have eC:=ae<|Box.fresh (w.alloc (.cells (bc m (.slice A n c)) 37)) 37 (bc m' (.slice B n' c'));have nS:=(af.ak aA (w.alloc (.cells (bc m (.slice A n c)) 37))).alloc (.cells (bc m' (.slice B n' c')) 37);rw[show(w.alloc (.cells (bc m (.slice A n c)) 37)).heap.size=w.heap.size+1 by simp]at eC;have IP:=ae<|nS.az cQ id;have HO:=ae<|ku.trans nS;clear ku nS cQ
 go_enter Tryz.func28,Tryz.ntmps28
 go_upto_region 1 with fail;change Code.wp _ _ _ _ ((w.alloc (.cells (bc m (.slice A n c)) 37)).alloc (.cells (bc m' (.slice B n' c')) 37));generalize(w.alloc (.cells (bc m (.slice A n c)) 37)).alloc (.cells (bc m' (.slice B n' c')) 37)=W at *;have FL:=ae<|HY.ao HO fun _ _=>id;have FK:=ae<|HZ.ao HO fun _ _=>id;generalize w.heap.size=b at *;clear HY HZ;go_upto_region 2 with(first|(refine pL (bc m (.slice A n c)) IP Tryz.underlying37 ?_)|(go_at_call 50;refine(oL m A n c _).mono ?_;rintro e W1 ⟨g1,rfl,CS,a8⟩));have Ce:=ae CS;have Ay:=ae<|a8.az IP id;have kj:=ae<|a8.az eC id;have bw:=ae<|HO.trans a8;have LV:=ae<|FL.ao a8 fun _ _=>id;have LS:=ae<|FK.ao a8 fun _ _=>id;clear CS a8 IP eC HO FL FK;go_upto_region 3 with(first|(refine pL (bc m' (.slice B n' c')) kj Tryz.underlying37 ?_)|(go_at_call 50;refine(oL m' B n' c' _).mono ?_;rintro e W2 ⟨g2,rfl,CR,bd⟩));have HS:=ae<|lI _ _ 8 8 8 8 (eP m) (eP m') W2 (Ce.keep bd fun _ _ _ _ _=>id) CR av av;have x0:aF W2 b 0 (m.f 0):=(bd.az Ay id).ag rfl;have x9:ba W2 b 9 (.bool m.g):=(bd.az Ay id).ag rfl;have Qh:ba W2 b 10 (.slice A n c):=(bd.az Ay id).ag rfl;have y0:aF W2 (b+1) 0 (m'.f 0):=(bd.az kj id).ag rfl;have y9:ba W2 (b+1) 9 (.bool m'.g):=(bd.az kj id).ag rfl;have Gy:ba W2 (b+1) 10 (.slice B n' c'):=(bd.az kj id).ag rfl;have bR:=ae<|bw.trans bd;have LU:=ae<|LV.ao bd fun _ _=>id;have LR:=ae<|LS.ao bd fun _ _=>id;have HM:=aH (eR m m' l l'=(decide (m.f 0=m'.f 0)&&(decide (eP m=eP m')&&(decide (m.g=m'.g)&&decide (l=l'))))) (rfl);clear CR bd Ay kj bw LV LS Ce;generalize Ai:decide (eP m=eP m')=k1 at *;clear Ai;generalize m.f 0=f0 at *;generalize m'.f 0=K1 at *;generalize m.g=gm at *;generalize m'.g=K0 at *
 by_cases h0:f0=K1
 ·subst h0
  cases k1 with
  |true=>
   by_cases hg:gm=K0
   ·subst hg;have N7:(gm==gm)=true:=by simp
    have HE:=ae (show eR m m' l l'=decide (l=l') by rw[HM.out];simp);exact dw
   ·have N7:(gm==K0)=false:=by simpa using hg
    have HE:=ae (show eR m m' l l'=false by rw[HM.out];simp[hg]);clear hg;exact dw
  |false=>
   have HE:=ae (show eR m m' l l'=false by rw[HM.out];simp);exact dw
 ·have jd:(f0==K1)=false:=by simpa using h0
  have HE:=ae (show eR m m' l l'=false by rw[HM.out];simp[h0]);clear h0;go_wp2_with (first|(go_at_call 20;refine HS.mono ?_;rintro e W3 ⟨rfl,q3,rfl⟩)|(go_at_call 15;refine(oG _ _ l l' _ (LU.ao ((af.ak aA _).drewN q3) fun _ _=>id) (LR.ao ((af.ak aA _).drewN q3) fun _ _=>id)).mono ?_;rintro e W4 ⟨rfl,q4,rfl⟩));go_ret;exact⟨by rw[HE.out];rfl,bR⟩
end
end Go.Proofs.YtpcfhbeakecihaaGreat

/- Lemmas. -/
import Derived.Test.YtpcfhbeakecihaaGreatM3
import Derived.Test.YtpcfhbeakecihaaGreatM45
set_option linter.all false
set_option maxHeartbeats 20000000
set_option maxRecDepth 100000
namespace Go.Proofs.YtpcfhbeakecihaaGreat
open Go.ChangeShapes Go.RowKit Go.WideShapes
theorem eF.Rq {w:World}{g n c:Nat}{l:List Int}(h:eF w (bp g n c) l){k:Nat}(hk:k<l.length):aF w g k (l.getD k 0):=by
 obtain⟨A,c',e,_,_,h⟩:=h;injection e with e1 e2 e3;obtain⟨g',o,e4,h⟩:=h k hk;rw[←e1]at e4;injection e4 with e4;injection e4 with e5 e6;subst e5 e6;rw[Nat.zero_add]at h;exact h
def RgR (m:dI)(n:Nat)(w:World)(i:Value)(wr:World):Prop:=∃k:Nat,k≤8∧i=ah k∧(∀f,f<k→ia m n (f+1)=true)∧af au w wr
section
theorem nU{P:Prop}(h:P:=by
 refine dE ?_;clear aC k0 k1;have HR:=aq (RgR m n W2 (ah ((k:Int)+1)) W3) (⟨k+1,HK,by push_cast;rfl,fun f hf=>by
  by_cases e:f=k
  ·rw[e];exact Sy
  ·exact HGD f aj,NV⟩)
 go_wp2
 go_roundw
 case rel=>(repeat first|exact HR|(refine⟨HR,?_⟩;(repeat(first|exact rfl|refine⟨rfl,?_⟩)))|apply Exists.intro)
 case measure=>simp[intOf];have:=HK.out;omega):P:=h
theorem gD{P:Prop}(h:P:=by
 have h9:=uD.Rq (k:=k) HK;rw[show[3,3,1099511627776,1099511627776,31,4,1099511627776,16].getD k 0=mk from HMA.out]at h9;exact h9):P:=h
theorem ny{P:Prop}(h:P:=by
 refine dE ?_;clear aC k0 k1;go_wp2;go_ret;exact⟨by rw[sE aj (by have:=HK.out;omega) Sy.out];rfl,bu.trans NV⟩):P:=h
theorem Uh (m:dI)(A:Option Addr)(n c:Nat)(w:World):Calls Tryz.prog 43 #[.agg (bd m (.slice A n c))] w fun e w'=>e= .returned (.bool (mg m n))∧af au w w':=by
 have HB:=ae<|Box.fresh w 37 (bd m (.slice A n c));have HO:=ae<|(af.ai au w).alloc (.cells (bd m (.slice A n c)) 37)
 go_enter Tryz.func43,Tryz.ntmps43
 go_upto_region 1 with fail;change Code.wp _ _ _ _ (w.alloc (.cells (bd m (.slice A n c)) 37));generalize w.alloc (.cells (bd m (.slice A n c)) 37)=W at *;generalize w.heap.size=b at *;have x0:aF W b 0 (m.f 0):=HB.ag rfl
 by_cases hk:1≤m.f 0∧m.f 0≤14
 ·have HF:=ae<|EH hk W;have HKD:=ae hk;clear hk;go_upto_region 2 with(go_at_call 71;refine HF.mono ?_;rintro e W1 ⟨gf,nf,rfl,hif,h1,h7,hl,aK⟩;clear hl);have HIF:=ae hif;have ta:=aq (nf≤maxLen) eV;have hz:((nf:Int)==0)=false:=by have:¬(nf:Int)=0:=aj;simpa using this
  have yO:(nf==0)=false:=by have:¬nf=0:=aj;simpa using this
  have b8:=ae<|aK.ak HB id;have bc:=ae<|HO.trans aK;clear hif h1 h7 aK x0 HF HB HO;go_upto_region 5 with(first|(refine iy (bd m (.slice A n c)) b8 Tryz.underlying37 ?_)|(go_at_call 50;refine(vN m A n c _).mono ?_;rintro e W2 ⟨gn,rfl,bL,bq⟩;have rC:=ae bL;have dG:=ae<|bq.ak b8 id;have bu:=ae<|bc.trans bq;have YC:=ae<|HIF.keep bq fun _ _ _ _ _=>id;clear bL bq));clear hz yO b8 bc HIF;go_wp2_with fail
  go_loopw [5] (fun iv wr=>RgR m n W2 iv wr) (fun iv _=>8 - (intOf iv).toNat)
  case atStart=>exact⟨0,fH _,rfl,fun f hf=>absurd hf (Nat.not_lt_zero _),af.ai _ _⟩
  case round=>
   obtain⟨k,hk8,rfl,qw,ho⟩:=hrel;have HGD:=ae qw;have Su:=ae ho;have Wc:af au W2 wr.drew:=ho.drew;have Xq:=ae Wc;clear qw ho
   by_cases aY:k<8
   ·have HK:=ae aY;have xC:(k:Int)<8:=aj;have hk0:(0:Int)≤(k:Int):=Int.natCast_nonneg k;have k0:aF wr.drew gn k (m.f (k+1)):=by
     have h9:=(rC.keep Wc fun _ _ _ _ _=>id).Rq (k:=k) aY;rw[IA m aY]at h9;exact h9
    have HMO:=ae<|Mc wr.drew;have fF:=ae<|fun(w':World) (hw:af au wr.drew w')=>ef (some ⟨gf,0,none⟩) nf nf (jl (m.f 0)) ((k:Int)+1) w' (YC.keep (Wc.trans hw) fun _ _ _ _ _=>id) ta;have Xw:=ae<|IZ (m:=m) (n:=n) aY;have vg:=ae<|vS (kd:=m.f 0) (f:=k+1) aj;have HMA:=ae<|PD aY;have RZ:IntKind.i64.wrap ((k:Int)+1)=(k:Int)+1:=by rw[IntKind.wrap_i64];omega
    generalize hx:m.f (k+1)=x at *;generalize JZ:Ov (k+1)=mk at *;clear Wc hk8 aY hx JZ
    by_cases c1:x<0
    ·have c1':decide (x<0)=true:=decide_eq_true c1;have Sy:=aq (ia m n (k+1)=false) (by rw[Xw.out,decide_eq_false aj];rfl);clear c1;go_upto_region 8 with fail;refine gg (fun w':World=>aF w' gn k x) 29 ?_ ?_
     ·assumption
     intro aC;refine Dk [0,1,2,3,4,5,6,7,8,9,11] ?_;refine cX 10 fun Kc hK=>?_
     rw[if_neg (by first|(simp[Region.wanted,yielded];done)|(simp[Region.wanted,yielded];intro h;cases h))];refine dy hK ?_ fun aC=>?_
     ·assumption
     clear hK;refine Dk [12,13,14,15,16,17,18,19,20,21,22,23,24,25] ?_;refine cX 26 fun Kc hK=>?_
     rw[if_neg (by first|(simp[Region.wanted,yielded];done)|(simp[Region.wanted,yielded];intro h;cases h))];refine dy hK ?_ fun aC=>?_
     ·assumption
     clear hK;refine wAx [27,28] ?_;refine dE ?_;clear aC k0;go_wp2;go_ret;exact⟨by rw[sE aj (by have:=HK.out;omega) Sy.out];rfl,bu.trans Xq⟩
    ·have c1':decide (x<0)=false:=decide_eq_false c1
     by_cases c2:mk<x
     ·have c2':decide (mk<x)=true:=decide_eq_true c2;have Sy:=aq (ia m n (k+1)=false) (by rw[Xw.out,decide_eq_false (show¬x≤mk by omega),Bool.and_false];rfl);clear c1 c2;go_upto_region 8 with fail;refine gg (fun w':World=>aF w' gn k x) 29 ?_ ?_
      ·assumption
      intro aC;refine bE [0,1,2,3,4,5,6,7,8,9,11] ?_;refine cX 10 fun Kc hK=>?_
      go_simp;refine HMO.mono ?_;rintro e W3 ⟨gm,rfl,uD,wL⟩;have NV:=ae<|Xq.trans wL;have Xo:=ae wL;have k0:=wL.cell k0 id;have k1:aF W3 gm k mk:=by
       exact gD
      clear uD wL;refine dy hK ?_ fun aC=>?_
      ·assumption
      clear hK;refine bE [12] ?_;refine cX 13 fun Kc hK=>?_
      go_simp;refine dy hK ?_ fun aC=>?_
      ·assumption
      clear hK;refine Dk [14,15,16,17,18,19,20,21,22,23,24,25] ?_;refine cX 26 fun Kc hK=>?_
      rw[if_neg (by first|(simp[Region.wanted,yielded];done)|(simp[Region.wanted,yielded];intro h;cases h))];refine dy hK ?_ fun aC=>?_
      ·assumption
      clear hK;refine wAx [27,28] ?_;exact ny
     ·have c2':decide (mk<x)=false:=decide_eq_false c2
      by_cases c3:x=0
      ·have c3':(x != 0)=false:=by simpa using c3
       have Sy:=aq (ia m n (k+1)=true) (by rw[Xw.out,decide_eq_true (show 0≤x by omega),decide_eq_true (show x≤mk by omega),c3];simp);clear c1 c2 c3;go_upto_region 8 with fail;refine gg (fun w':World=>aF w' gn k x) 29 ?_ ?_
       ·assumption
       intro aC;refine bE [0,1,2,3,4,5,6,7,8,9,11] ?_;refine cX 10 fun Kc hK=>?_
       go_simp;refine HMO.mono ?_;rintro e W3 ⟨gm,rfl,uD,wL⟩;have NV:=ae<|Xq.trans wL;have Xo:=ae wL;have k0:=wL.cell k0 id;have k1:aF W3 gm k mk:=by
        exact gD
       clear uD wL;refine dy hK ?_ fun aC=>?_
       ·assumption
       clear hK;refine bE [12] ?_;refine cX 13 fun Kc hK=>?_
       go_simp;refine dy hK ?_ fun aC=>?_
       ·assumption
       clear hK;refine Dk [14,15,16,17,18,19,20,21,22,23,24,25] ?_;refine cX 26 fun Kc hK=>?_
       rw[if_neg (by first|(simp[Region.wanted,yielded];done)|(simp[Region.wanted,yielded];intro h;cases h))];refine dy hK ?_ fun aC=>?_
       ·assumption
       clear hK;refine Dk [27,28] ?_;exact nU
      ·have c3':(x != 0)=true:=by simpa using c3
       by_cases c4:((k:Int)+1)∈jl (m.f 0)
       ·have SD:=aq (decide (((k:Int)+1)∈jl (m.f 0))=true) (decide_eq_true c4);have Sy:=aq (ia m n (k+1)=true) (by rw[Xw.out,decide_eq_true (show 0≤x by omega),decide_eq_true (show x≤mk by omega),vg.1 (by push_cast;exact c4)];rfl);clear c1 c2 c3 c4;go_upto_region 8 with fail;refine gg (fun w':World=>aF w' gn k x) 29 ?_ ?_
        ·assumption
        intro aC;refine bE [0,1,2,3,4,5,6,7,8,9,11] ?_;refine cX 10 fun Kc hK=>?_
        go_simp;refine HMO.mono ?_;rintro e W3 ⟨gm,rfl,uD,wL⟩;have NV:=ae<|Xq.trans wL;have Xo:=ae wL;have k0:=wL.cell k0 id;have k1:aF W3 gm k mk:=by
         exact gD
        clear uD wL;refine dy hK ?_ fun aC=>?_
        ·assumption
        clear hK;refine bE [12] ?_;refine cX 13 fun Kc hK=>?_
        go_simp;refine dy hK ?_ fun aC=>?_
        ·assumption
        clear hK;refine bE [14,15,16,17,18,19,20,21,22,23,24,25] ?_;refine cX 26 fun Kc hK=>?_
        go_simp;have HH:=fF.out W3 Xo;rw[SD.out]at HH;refine HH.mono ?_;rintro e W4 ⟨rfl,rfl⟩;clear HH;refine dy hK ?_ fun aC=>?_
        ·assumption
        clear hK;refine bE [27,28] ?_;exact nU
       ·have SD:=aq (decide (((k:Int)+1)∈jl (m.f 0))=false) (decide_eq_false c4);have Sy:=aq (ia m n (k+1)=false) (by
         have h9:(lK (m.f 0)).testBit (k+1)=false:=by
          cases e:(lK (m.f 0)).testBit (k+1)with
          |false=>rfl
          |true=>exact absurd (by have:=vg.2 e;push_cast at this;exact this) c4
         rw[Xw.out,h9,show(x==0)=false from by simpa using c3,Bool.false_or,Bool.and_false])
        clear c1 c2 c3 c4;go_upto_region 8 with fail;refine gg (fun w':World=>aF w' gn k x) 29 ?_ ?_
        ·assumption
        intro aC;refine bE [0,1,2,3,4,5,6,7,8,9,11] ?_;refine cX 10 fun Kc hK=>?_
        go_simp;refine HMO.mono ?_;rintro e W3 ⟨gm,rfl,uD,wL⟩;have NV:=ae<|Xq.trans wL;have Xo:=ae wL;have k0:=wL.cell k0 id;have k1:aF W3 gm k mk:=by
         exact gD
        clear uD wL;refine dy hK ?_ fun aC=>?_
        ·assumption
        clear hK;refine bE [12] ?_;refine cX 13 fun Kc hK=>?_
        go_simp;refine dy hK ?_ fun aC=>?_
        ·assumption
        clear hK;refine bE [14,15,16,17,18,19,20,21,22,23,24,25] ?_;refine cX 26 fun Kc hK=>?_
        go_simp;have HH:=fF.out W3 Xo;rw[SD.out]at HH;refine HH.mono ?_;rintro e W4 ⟨rfl,rfl⟩;clear HH;refine dy hK ?_ fun aC=>?_
        ·assumption
        clear hK;refine bE [27,28] ?_;exact ny
   ·obtain rfl:k=8:=aj;have hbw:=(Su).ak dG id;have k9:aM wr b 9 (.bool m.g):=hbw.ag rfl;have k10:aM wr b 10 (.slice A n c):=hbw.ag rfl;have HHX:=ae<|fun(x:Int)=>ef (some ⟨gf,0,none⟩) nf nf (jl (m.f 0)) x wr (YC.keep Su fun _ _ _ _ _=>id) ta;have YA:=aq (∀r,(ia m n 9&&ia m n 10)=r→mg m n=r) (fun r h=>by
     cases r with
     |true=>
      rw[Bool.and_eq_true]at h;refine B3 HKD fun f h1 h2=>?_
      by_cases e9:f=9
      ·rw[e9];exact h.1
      ·by_cases qO:f=10
       ·rw[qO];exact h.2
       ·obtain⟨f',rfl⟩:∃f',f=f'+1:=⟨f - 1,aj⟩;exact HGD f' aj
     |false=>
      rw[Bool.and_eq_false_iff]at h;rcases h with h|h
      ·exact sE aE aE h
      ·exact sE aE aE h)
    have d9:decide ((9:Int)∈jl (m.f 0))=(lK (m.f 0)).testBit 9:=by
     have h9:=vS (kd:=m.f 0) (f:=9) aE
     cases e:(lK (m.f 0)).testBit 9 with
     |true=>exact decide_eq_true (h9.2 e)
     |false=>exact decide_eq_false fun h=>by rw[h9.1 h]at e;cases e
    have d10:decide ((10:Int)∈jl (m.f 0))=(lK (m.f 0)).testBit 10:=by
     have h9:=vS (kd:=m.f 0) (f:=10) aE
     cases e:(lK (m.f 0)).testBit 10 with
     |true=>exact decide_eq_true (h9.2 e)
     |false=>exact decide_eq_false fun h=>by rw[h9.1 h]at e;cases e
    have HG9:=ae<|P0 (m:=m) (n:=n);have KM:=ae<|P1 (m:=m) (n:=n);have cO:=ae<|bu.trans Su;clear hbw Wc HGD;generalize(lK (m.f 0)).testBit 9=t9 at *;generalize(lK (m.f 0)).testBit 10=t10 at *;generalize m.g=g at *;obtain⟨Z2,Dz⟩:∃q,q=decide ((n:Int)≤64):=⟨_,rfl⟩;have y64:decide (n≤64)=Z2:=by rw[Dz];exact decide_eq_decide.2 aj
    have KM:=aq (ia m n 10=(Z2&&(t10||((n:Int)==0)))) (by rw[Dz];exact KM);have x64:=Dz.symm;clear Dz
    by_cases yR:n=0
    ·subst yR;have z1:decide ((0:Int)<0)=false:=aE
     cases g<;>cases t9<;>cases t10<;>cases Z2<;>(first|(exact absurd x64 aE)|(go_wp2_with (go_at_call 18;refine(HHX _).mono ?_;rintro e W3 ⟨rfl,rfl⟩);go_ret;exact⟨by rw[YA.out _ (by rw[HG9.out,KM.out];try rfl)];try rfl,cO⟩))
    ·have z1:decide (0<n)=true:=decide_eq_true aj;have z2:decide ((0:Int)<(n:Int))=true:=decide_eq_true aj;have z3:((n:Int)==0)=false:=by have:¬(n:Int)=0:=aj;simpa using this
     rw[z3]at KM;clear yR z3
     cases g<;>cases t9<;>cases t10<;>cases Z2<;>(go_wp2_with (go_at_call 18;refine(HHX _).mono ?_;rintro e W3 ⟨rfl,rfl⟩);go_ret;exact⟨by rw[YA.out _ (by rw[HG9.out,KM.out];try rfl)];try rfl,cO⟩)
 ·have HF:=ae<|I3 hk W;have HKD:=ae<|yl (m:=m) (n:=n) hk;clear hk;go_wp2_with (go_at_call 71;refine HF.mono ?_;rintro e W1 ⟨rfl,rfl⟩);go_ret;exact⟨by rw[HKD.out];rfl,HO⟩
end
end Go.Proofs.YtpcfhbeakecihaaGreat

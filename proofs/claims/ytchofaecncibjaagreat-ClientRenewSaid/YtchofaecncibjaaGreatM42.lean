/- Lemmas. -/
import Derived.Test.YtchofaecncibjaaGreatM3
import Derived.Test.YtchofaecncibjaaGreatM41
set_option linter.all false
set_option maxHeartbeats 20000000
set_option maxRecDepth 100000
namespace Go.Proofs.YtchofaecncibjaaGreat
open Go.ChangeShapes Go.RowKit Go.WideShapes
theorem gl.Y9 {w:World}{g n c:Nat}{l:List Int}(h:gl w (aU g n c) l){k:Nat}(hk:k<l.length):aw w g k (l.getD k 0):=by
 obtain⟨A,c',e,_,_,h⟩:=h;injection e with e1 e2 e3;obtain⟨g',o,e4,h⟩:=h k hk;rw[←e1]at e4;injection e4 with e4;injection e4 with e5 e6;subst e5 e6;rw[Nat.zero_add]at h;exact h
def RgR (m:di)(n:Nat)(w:World)(i:Value)(wr:World):Prop:=∃k:Nat,k≤8∧i=ah k∧(∀f,f<k→iH m n (f+1)=true)∧ag az w wr
section
theorem rk{P:Prop}(h:P:=by
 refine cG ?_;clear aH k0 k1;have HR:=aB (RgR m n W2 (ah ((k:Int)+1)) W3) (⟨k+1,HK,by push_cast;rfl,fun f hf=>by
  by_cases e:f=k
  ·rw[e];exact HGX
  ·exact HGD f ao,My⟩)
 go_wp2
 go_roundw
 case rel=>(repeat first|exact HR|(refine⟨HR,?_⟩;(repeat(first|exact rfl|refine⟨rfl,?_⟩)))|apply Exists.intro)
 case measure=>simp[intOf];have:=HK.out;omega):P:=h
theorem jk{P:Prop}(h:P:=by
 have h9:=CQ.Y9 (k:=k) HK;rw[show[3,3,1099511627776,1099511627776,31,4,1099511627776,16].getD k 0=mk from HMA.out]at h9;exact h9):P:=h
theorem qH{P:Prop}(h:P:=by
 refine cG ?_;clear aH k0 k1;go_wp2;go_ret;exact⟨by rw[uq ao (by have:=HK.out;omega) HGX.out];rfl,bf.trans My⟩):P:=h
theorem jI (m:di)(A:Option Addr)(n c:Nat)(w:World):Calls Tryz.prog 52 #[.agg (aP m (.slice A n c))] w fun e w'=>e= .returned (.bool (eF m n))∧ag az w w':=by
 have HB:=ae<|Box.fresh w 37 (aP m (.slice A n c));have HO:=ae<|(ag.aj az w).alloc (.cells (aP m (.slice A n c)) 37)
 go_enter Tryz.func52,Tryz.ntmps52
 go_upto_region 1 with fail;change Code.wp _ _ _ _ (w.alloc (.cells (aP m (.slice A n c)) 37));generalize w.alloc (.cells (aP m (.slice A n c)) 37)=W at *;generalize w.heap.size=b at *;have x0:aw W b 0 (m.f 0):=HB.af rfl
 by_cases hk:1≤m.f 0∧m.f 0≤14
 ·have HF:=ae<|LW hk W;have HKD:=ae hk;clear hk;go_upto_region 2 with(go_at_call 90;refine HF.mono ?_;rintro e W1 ⟨gf,nf,rfl,hif,h1,h7,hl,aR⟩;clear hl);have HIF:=ae hif;have yt:=aB (nf≤maxLen) gJ;have hz:((nf:Int)==0)=false:=by have:¬(nf:Int)=0:=ao;simpa using this
  have Ay:(nf==0)=false:=by have:¬nf=0:=ao;simpa using this
  have bU:=ae<|aR.aq HB id;have aX:=ae<|HO.trans aR;clear hif h1 h7 aR x0 HF HB HO;go_upto_region 5 with(first|(refine fH (aP m (.slice A n c)) bU Tryz.underlying37 ?_)|(go_at_call 91;refine(BV m A n c _).mono ?_;rintro e W2 ⟨gn,rfl,bw,bp⟩;have kx:=ae bw;have cO:=ae<|bp.aq bU id;have bf:=ae<|aX.trans bp;have adv:=ae<|HIF.keep bp fun _ _ _ _ _=>id;clear bw bp));clear hz Ay bU aX HIF;go_wp2_with fail
  go_loopw [5] (fun iv wr=>RgR m n W2 iv wr) (fun iv _=>8 - (intOf iv).toNat)
  case atStart=>exact⟨0,dT _,rfl,fun f hf=>absurd hf (Nat.not_lt_zero _),ag.aj _ _⟩
  case round=>
   obtain⟨k,hk8,rfl,wC,ho⟩:=hrel;have HGD:=ae wC;have HOR:=ae ho;have Ye:ag az W2 wr.drew:=ho.drew;have NU:=ae Ye;clear wC ho
   by_cases aY:k<8
   ·have HK:=ae aY;have pr:(k:Int)<8:=ao;have EO:(0:Int)≤(k:Int):=Int.natCast_nonneg k;have k0:aw wr.drew gn k (m.f (k+1)):=by
     have h9:=(kx.keep Ye fun _ _ _ _ _=>id).Y9 (k:=k) aY;rw[O6 m aY]at h9;exact h9
    have HMO:=ae<|TL wr.drew;have gw:=ae<|fun(w':World) (hw:ag az wr.drew w')=>fS (some ⟨gf,0,none⟩) nf nf (lO (m.f 0)) ((k:Int)+1) w' (adv.keep (Ye.trans hw) fun _ _ _ _ _=>id) yt;have HGF:=ae<|Pz (m:=m) (n:=n) aY;have vF:=ae<|B5 (kd:=m.f 0) (f:=k+1) ao;have HMA:=ae<|Xe aY;have hwr:IntKind.i64.wrap ((k:Int)+1)=(k:Int)+1:=by rw[IntKind.wrap_i64];omega
    generalize hx:m.f (k+1)=x at *;generalize QT:RB (k+1)=mk at *;clear Ye hk8 aY hx QT
    by_cases c1:x<0
    ·have Z3:decide (x<0)=true:=decide_eq_true c1;have HGX:=aB (iH m n (k+1)=false) (by rw[HGF.out,decide_eq_false ao];rfl);clear c1;go_upto_region 8 with fail;refine oa (fun w':World=>aw w' gn k x) 29 ?_ ?_
     ·assumption
     intro aH;refine yd [0,1,2,3,4,5,6,7,8,9,11] ?_;refine cM 10 fun Kc hK=>?_
     rw[if_neg (by first|(simp[Region.wanted,yielded];done)|(simp[Region.wanted,yielded];intro h;cases h))];refine jS hK ?_ fun aH=>?_
     ·assumption
     clear hK;refine yd [12,13,14,15,16,17,18,19,20,21,22,23,24,25] ?_;refine cM 26 fun Kc hK=>?_
     rw[if_neg (by first|(simp[Region.wanted,yielded];done)|(simp[Region.wanted,yielded];intro h;cases h))];refine jS hK ?_ fun aH=>?_
     ·assumption
     clear hK;refine wAx [27,28] ?_;refine cG ?_;clear aH k0;go_wp2;go_ret;exact⟨by rw[uq ao (by have:=HK.out;omega) HGX.out];rfl,bf.trans NU⟩
    ·have Z3:decide (x<0)=false:=decide_eq_false c1
     by_cases c2:mk<x
     ·have Z0:decide (mk<x)=true:=decide_eq_true c2;have HGX:=aB (iH m n (k+1)=false) (by rw[HGF.out,decide_eq_false (show¬x≤mk by omega),Bool.and_false];rfl);clear c1 c2;go_upto_region 8 with fail;refine oa (fun w':World=>aw w' gn k x) 29 ?_ ?_
      ·assumption
      intro aH;refine bX [0,1,2,3,4,5,6,7,8,9,11] ?_;refine cM 10 fun Kc hK=>?_
      go_simp;refine HMO.mono ?_;rintro e W3 ⟨gm,rfl,CQ,CN⟩;have My:=ae<|NU.trans CN;have YB:=ae CN;have k0:=CN.cell k0 id;have k1:aw W3 gm k mk:=by
       exact jk
      clear CQ CN;refine jS hK ?_ fun aH=>?_
      ·assumption
      clear hK;refine bX [12] ?_;refine cM 13 fun Kc hK=>?_
      go_simp;refine jS hK ?_ fun aH=>?_
      ·assumption
      clear hK;refine yd [14,15,16,17,18,19,20,21,22,23,24,25] ?_;refine cM 26 fun Kc hK=>?_
      rw[if_neg (by first|(simp[Region.wanted,yielded];done)|(simp[Region.wanted,yielded];intro h;cases h))];refine jS hK ?_ fun aH=>?_
      ·assumption
      clear hK;refine wAx [27,28] ?_;exact qH
     ·have Z0:decide (mk<x)=false:=decide_eq_false c2
      by_cases c3:x=0
      ·have c3':(x != 0)=false:=by simpa using c3
       have HGX:=aB (iH m n (k+1)=true) (by rw[HGF.out,decide_eq_true (show 0≤x by omega),decide_eq_true (show x≤mk by omega),c3];simp);clear c1 c2 c3;go_upto_region 8 with fail;refine oa (fun w':World=>aw w' gn k x) 29 ?_ ?_
       ·assumption
       intro aH;refine bX [0,1,2,3,4,5,6,7,8,9,11] ?_;refine cM 10 fun Kc hK=>?_
       go_simp;refine HMO.mono ?_;rintro e W3 ⟨gm,rfl,CQ,CN⟩;have My:=ae<|NU.trans CN;have YB:=ae CN;have k0:=CN.cell k0 id;have k1:aw W3 gm k mk:=by
        exact jk
       clear CQ CN;refine jS hK ?_ fun aH=>?_
       ·assumption
       clear hK;refine bX [12] ?_;refine cM 13 fun Kc hK=>?_
       go_simp;refine jS hK ?_ fun aH=>?_
       ·assumption
       clear hK;refine yd [14,15,16,17,18,19,20,21,22,23,24,25] ?_;refine cM 26 fun Kc hK=>?_
       rw[if_neg (by first|(simp[Region.wanted,yielded];done)|(simp[Region.wanted,yielded];intro h;cases h))];refine jS hK ?_ fun aH=>?_
       ·assumption
       clear hK;refine yd [27,28] ?_;exact rk
      ·have c3':(x != 0)=true:=by simpa using c3
       by_cases c4:((k:Int)+1)∈lO (m.f 0)
       ·have wN:=aB (decide (((k:Int)+1)∈lO (m.f 0))=true) (decide_eq_true c4);have HGX:=aB (iH m n (k+1)=true) (by rw[HGF.out,decide_eq_true (show 0≤x by omega),decide_eq_true (show x≤mk by omega),vF.1 (by push_cast;exact c4)];rfl);clear c1 c2 c3 c4;go_upto_region 8 with fail;refine oa (fun w':World=>aw w' gn k x) 29 ?_ ?_
        ·assumption
        intro aH;refine bX [0,1,2,3,4,5,6,7,8,9,11] ?_;refine cM 10 fun Kc hK=>?_
        go_simp;refine HMO.mono ?_;rintro e W3 ⟨gm,rfl,CQ,CN⟩;have My:=ae<|NU.trans CN;have YB:=ae CN;have k0:=CN.cell k0 id;have k1:aw W3 gm k mk:=by
         exact jk
        clear CQ CN;refine jS hK ?_ fun aH=>?_
        ·assumption
        clear hK;refine bX [12] ?_;refine cM 13 fun Kc hK=>?_
        go_simp;refine jS hK ?_ fun aH=>?_
        ·assumption
        clear hK;refine bX [14,15,16,17,18,19,20,21,22,23,24,25] ?_;refine cM 26 fun Kc hK=>?_
        go_simp;have HH:=gw.out W3 YB;rw[wN.out]at HH;refine HH.mono ?_;rintro e W4 ⟨rfl,rfl⟩;clear HH;refine jS hK ?_ fun aH=>?_
        ·assumption
        clear hK;refine bX [27,28] ?_;exact rk
       ·have wN:=aB (decide (((k:Int)+1)∈lO (m.f 0))=false) (decide_eq_false c4);have HGX:=aB (iH m n (k+1)=false) (by
         have h9:(oO (m.f 0)).testBit (k+1)=false:=by
          cases e:(oO (m.f 0)).testBit (k+1)with
          |false=>rfl
          |true=>exact absurd (by have:=vF.2 e;push_cast at this;exact this) c4
         rw[HGF.out,h9,show(x==0)=false from by simpa using c3,Bool.false_or,Bool.and_false])
        clear c1 c2 c3 c4;go_upto_region 8 with fail;refine oa (fun w':World=>aw w' gn k x) 29 ?_ ?_
        ·assumption
        intro aH;refine bX [0,1,2,3,4,5,6,7,8,9,11] ?_;refine cM 10 fun Kc hK=>?_
        go_simp;refine HMO.mono ?_;rintro e W3 ⟨gm,rfl,CQ,CN⟩;have My:=ae<|NU.trans CN;have YB:=ae CN;have k0:=CN.cell k0 id;have k1:aw W3 gm k mk:=by
         exact jk
        clear CQ CN;refine jS hK ?_ fun aH=>?_
        ·assumption
        clear hK;refine bX [12] ?_;refine cM 13 fun Kc hK=>?_
        go_simp;refine jS hK ?_ fun aH=>?_
        ·assumption
        clear hK;refine bX [14,15,16,17,18,19,20,21,22,23,24,25] ?_;refine cM 26 fun Kc hK=>?_
        go_simp;have HH:=gw.out W3 YB;rw[wN.out]at HH;refine HH.mono ?_;rintro e W4 ⟨rfl,rfl⟩;clear HH;refine jS hK ?_ fun aH=>?_
        ·assumption
        clear hK;refine bX [27,28] ?_;exact qH
   ·obtain rfl:k=8:=ao;have hbw:=(HOR).aq cO id;have k9:aE wr b 9 (.bool m.g):=hbw.af rfl;have k10:aE wr b 10 (.slice A n c):=hbw.af rfl;have HHX:=ae<|fun(x:Int)=>fS (some ⟨gf,0,none⟩) nf nf (lO (m.f 0)) x wr (adv.keep HOR fun _ _ _ _ _=>id) yt;have adu:=aB (∀r,(iH m n 9&&iH m n 10)=r→eF m n=r) (fun r h=>by
     cases r with
     |true=>
      rw[Bool.and_eq_true]at h;refine Iy HKD fun f h1 h2=>?_
      by_cases e9:f=9
      ·rw[e9];exact h.1
      ·by_cases e10:f=10
       ·rw[e10];exact h.2
       ·obtain⟨f',rfl⟩:∃f',f=f'+1:=⟨f - 1,ao⟩;exact HGD f' ao
     |false=>
      rw[Bool.and_eq_false_iff]at h;rcases h with h|h
      ·exact uq aD aD h
      ·exact uq aD aD h)
    have d9:decide ((9:Int)∈lO (m.f 0))=(oO (m.f 0)).testBit 9:=by
     have h9:=B5 (kd:=m.f 0) (f:=9) aD
     cases e:(oO (m.f 0)).testBit 9 with
     |true=>exact decide_eq_true (h9.2 e)
     |false=>exact decide_eq_false fun h=>by rw[h9.1 h]at e;cases e
    have d10:decide ((10:Int)∈lO (m.f 0))=(oO (m.f 0)).testBit 10:=by
     have h9:=B5 (kd:=m.f 0) (f:=10) aD
     cases e:(oO (m.f 0)).testBit 10 with
     |true=>exact decide_eq_true (h9.2 e)
     |false=>exact decide_eq_false fun h=>by rw[h9.1 h]at e;cases e
    have HG9:=ae<|Xz (m:=m) (n:=n);have R3:=ae<|XA (m:=m) (n:=n);have Q8:=ae<|bf.trans HOR;clear hbw Ye HGD;generalize(oO (m.f 0)).testBit 9=t9 at *;generalize(oO (m.f 0)).testBit 10=t10 at *;generalize m.g=g at *;obtain⟨l64,Kw⟩:∃q,q=decide ((n:Int)≤64):=⟨_,rfl⟩;have y64:decide (n≤64)=l64:=by rw[Kw];exact decide_eq_decide.2 ao
    have R3:=aB (iH m n 10=(l64&&(t10||((n:Int)==0)))) (by rw[Kw];exact R3);have x64:=Kw.symm;clear Kw
    by_cases wJ:n=0
    ·subst wJ;have z1:decide ((0:Int)<0)=false:=aD
     cases g<;>cases t9<;>cases t10<;>cases l64<;>(first|(exact absurd x64 aD)|(go_wp2_with (go_at_call 20;refine(HHX _).mono ?_;rintro e W3 ⟨rfl,rfl⟩);go_ret;exact⟨by rw[adu.out _ (by rw[HG9.out,R3.out];try rfl)];try rfl,Q8⟩))
    ·have z1:decide (0<n)=true:=decide_eq_true ao;have z2:decide ((0:Int)<(n:Int))=true:=decide_eq_true ao;have z3:((n:Int)==0)=false:=by have:¬(n:Int)=0:=ao;simpa using this
     rw[z3]at R3;clear wJ z3
     cases g<;>cases t9<;>cases t10<;>cases l64<;>(go_wp2_with (go_at_call 20;refine(HHX _).mono ?_;rintro e W3 ⟨rfl,rfl⟩);go_ret;exact⟨by rw[adu.out _ (by rw[HG9.out,R3.out];try rfl)];try rfl,Q8⟩)
 ·have HF:=ae<|PD hk W;have HKD:=ae<|Eb (m:=m) (n:=n) hk;clear hk;go_wp2_with (go_at_call 90;refine HF.mono ?_;rintro e W1 ⟨rfl,rfl⟩);go_ret;exact⟨by rw[HKD.out];rfl,HO⟩
end
end Go.Proofs.YtchofaecncibjaaGreat

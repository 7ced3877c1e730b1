/- texts Spb -/
import Derived.Test.YtpcfhbeakecihaaGreatDwSpa
import Derived.Test.YtpcfhbeakecihaaGreatM10
import Derived.Test.YtpcfhbeakecihaaGreatM3
import Derived.Test.YtpcfhbeakecihaaGreatM2
import Derived.Test.YtpcfhbeakecihaaGreatM1
import Derived.Test.YtpcfhbeakecihaaGreatM4
import Derived.Test.YtpcfhbeakecihaaGreatM5
set_option linter.all false
set_option maxHeartbeats 20000000
set_option maxRecDepth 100000
namespace Go.Proofs.YtpcfhbeakecihaaGreat
open Go.RowKit Go.ChangeShapes Go.WideShapes
theorem catS_len:∀(vs:List Nat),(catS vs).length≤9*vs.length
 | []=>Nat.le_refl _
 |v :: vs=>by
  rw[catS_cons,List.length_append,List.length_cons];have:=catS_len vs;have:=wm v;omega
def NmRel (vs:List Nat)(w:World)(v i:Value)(wr:World):Prop:=∃k,k≤vs.length∧i= .int .i64 (k:Nat)∧Row 5 wr v (bytes (catS (vs.take k)))∧(∀j,aJ v j→w.heap.size≤j)∧af aA w wr
section
theorem sto_numbers (vs:List Nat){A:Option Addr}{cb:Nat}(w:World)(hn:vs.length≤6)(hv:∀k,k<vs.length→vs.getD k 0<2 ^ 63)
 (hc:∀k,k<vs.length→∃g o,A=some ⟨g,o,none⟩∧aF w g (o+k) (vs.getD k 0:Nat)):
 Calls Tryz.prog 92 #[.slice A vs.length cb] w (oB (catS vs) w):=by
 have HN:=ae hn;have HV:=ae hv;have HC:=ae hc;clear hn hv hc
 go_enter Tryz.func92,Tryz.ntmps92
 go_wp2_with fail
 go_loopw [3,8] (fun v i wr=>NmRel vs w v i wr) (fun _ i _=>vs.length - (intOf i).toNat)
 case atStart=>exact⟨0,Nat.zero_le _,rfl,Row.kv _ _,fun j hj=>(bq hj).elim,af.ak _ _⟩
 case round=>
  obtain⟨k,hk,rfl,hr,hb,ho⟩:=hrel;have HR:=ae hr;have HB:=ae hb;have HO:=ae ho;clear hr hb ho
  by_cases aO:k<vs.length
  ·obtain⟨g,o,hA,hc⟩:=HC.out k aO;subst hA;have HL:=ae aO;have zf:=HO.cell hc id;have mO:(k:Int)<vs.length:=by omega
   have hk6:(k:Int)<6:=by have:=HN.out;omega
   have HP:=ae (qu _ (catS (vs.take k)) (vs.getD k 0) _ (HR.nR (by have:=catS_len (vs.take k);have:=HN.out;have:=List.length_take_le k vs;omega)) (by have:=catS_len (vs.take k);have:=HN.out;have:=List.length_take_le k vs;omega) (HV k aO));rw[←catS_succ vs aO]at HP;clear hc aO hk;generalize vs.getD k 0=x at *;go_upto_region 6 with(go_at_call 119;refine HP.mono ?_;rintro e w1 ⟨v1,rfl,Ka,a8,dq⟩);have HQ:=aH (NmRel vs w v1 (.int .i64 ((k:Int)+1)) w1) (⟨k+1,HL,by simp,Ka,fun j hj=>Nat.le_trans HO.size (dq j hj),HO.trans a8⟩);clear Ka a8 dq HR HP;go_wp2_with fail
   go_roundw
   case rel=>(repeat first|exact HQ|(refine⟨HQ,?_⟩;(repeat(first|exact rfl|refine⟨rfl,?_⟩)))|apply Exists.intro)
   case measure=>simp[intOf];have:=HL.out;omega
  ·obtain rfl:k=vs.length:=by omega
   clear aO hk;go_wp2_with fail;go_ret;refine⟨_,rfl,?_,HO,HB⟩;have:=HR.out;rw[List.take_length]at this;exact this
theorem sto_writes {sb:Nat}{B:Option Addr}{n cb:Nat}(w:World):
 Calls Tryz.prog 90 #[.pointer (some ⟨sb,0,none⟩),.slice B n cb] w fun e w'=>∃sxZq lxZq,e= .returned (.func (.func 118) #[] #[.pointer (some ⟨lxZq,0,none⟩),.pointer (some ⟨sxZq,0,none⟩)])∧w.heap.size≤sxZq∧w.heap.size≤lxZq∧
  Box w' sxZq 70 #[.pointer (some ⟨sb,0,none⟩)]∧Box w' lxZq 60 #[.slice B n cb]∧af aA w w':=by
 go_enter Tryz.func90,Tryz.ntmps90
 go_wp2_with fail;go_ret;have ku:=(af.ak aA w).alloc (.cells #[.pointer (some ⟨sb,0,none⟩)] 70);have b1:=Box.fresh w 70 #[.pointer (some ⟨sb,0,none⟩)];have nS:=(af.ak aA (w.alloc (.cells #[.pointer (some ⟨sb,0,none⟩)] 70))).alloc (.cells #[.slice B n cb] 60);have b2:=Box.fresh (w.alloc (.cells #[.pointer (some ⟨sb,0,none⟩)] 70)) 60 #[.slice B n cb];rw[show(w.alloc (.cells #[.pointer (some ⟨sb,0,none⟩)] 70)).heap.size=w.heap.size+1 by simp]at b2;exact⟨w.heap.size,w.heap.size+1,by simp,Nat.le_refl _,Nat.le_succ _,nS.az b1 id,b2,ku.trans nS⟩
def wrAll:dH→List (Nat×List Int)→dH×Int
 |d,[]=>(d,0)
 |d,x :: r=>if(d.write x.1 x.2).2≠0 then d.write x.1 x.2 else wrAll (d.write x.1 x.2).1 r
variable {w:World}{sb db lb:Nat}{V:Nat→Value}{sh:Nat→Int}{d:dH}
def StoP (sb db lb:Nat)(V:Nat→Value)(sh:Nat→Int)(d':dH)(w w':World):Prop:=
 ∃V',gF w' sb db lb V' sh d'∧(∀k,gN db lb V' k→gN db lb V k∨w.heap.size≤k)∧af (fun k=>k=db∨k=lb) w w'
theorem dH.write_rng (d:dH)(i:Nat)(l:List Int)(h0: -1≤d.b9)(h1:d.b9≤9223372036854775807): -1≤(d.write i l).1.b9∧(d.write i l).1.b9≤9223372036854775807:=by
 unfold dH.write
 split
 ·exact⟨h0,h1⟩
 ·split
  ·exact⟨h0,h1⟩
  ·show -1≤(if d.b9 - 1< -1 then(-1:Int)else d.b9 - 1)∧(if d.b9 - 1< -1 then(-1:Int)else d.b9 - 1)≤9223372036854775807
   split<;>omega
theorem StoP.refl (h:gF w sb db lb V sh d):StoP sb db lb V sh d w w:=⟨V,h,fun k hk=>.inl hk,af.ak _ _⟩
theorem StoP.undrew {d':dH}{w':World}(h:StoP sb db lb V sh d' w.drew w'):StoP sb db lb V sh d' w w':=by
 obtain⟨V',a,b,c⟩:=h;exact⟨V',a,b,((af.ak _ w).drew).aE c fun _ h=>.inl h⟩
theorem StoP.trans {w1 w2:World}{V1:Nat→Value}{d1 d2:dH}(h1:gF w1 sb db lb V1 sh d1)(Ai:∀k,gN db lb V1 k→gN db lb V k∨w.heap.size≤k)(a8:af (fun k=>k=db∨k=lb) w w1)(h2:StoP sb db lb V1 sh d2 w1 w2):StoP sb db lb V sh d2 w w2:=by
 obtain⟨V2,a,b,c⟩:=h2;exact⟨V2,a,fun k hk=>(b k hk).elim (Ai k) fun h=>.inr (Nat.le_trans a8.size h),a8.aE c fun k hk=>.inl hk⟩
theorem sto_wr {i:Nat}{l:List Int}{A:Option Addr}{n c:Nat}(h:gF w sb db lb V sh d)(hi:i<64)(hl:l.length≤64)(hB:sm l)(hb:b8 w (.slice A n c) l)(Fx:∀k,aJ (.slice A n c) k→k≠db):
 Calls Tryz.prog 100 #[.pointer (some ⟨db,0,none⟩),.int .i64 i,.slice A n c] w fun e w'=>e= .returned (.int .i64 (d.write i l).2)∧StoP sb db lb V sh (d.write i l).1 w w':=by
 refine(Cp hi hl h.f0 h.f1 h.B1 hb Fx).mono ?_;rintro e w' ⟨V',rfl,hd,ho,hk⟩;have hr:=d.write_rng i l h.f0 h.f1;have J7:=h.off;refine⟨rfl,V',{az:=ho.az h.az fun e=>J7 (e.elim .inl fun e=>.inr (.inl e)),B1:=hd,off:=fun e=>(hk _ e).elim J7 fun e=>?_,zW:=h.zW,f0:=hr.1,f1:=hr.2,EY:=fun j=>?_},hk,ho⟩
 ·have:=h.az.lt;omega
 ·rcases d.Ck i l j with⟨e,_⟩|e
  ·rw[e];exact hB
  ·rw[e];exact h.EY j
structure WcB (w:World)(db lb:Nat)(n lxZq sxZq sb g:Nat)(L:List (Nat×List Int))(Vl:Nat→Value)(g2:Nat):Prop where
 csx:ba w sxZq 0 (.pointer (some ⟨sb,0,none⟩))
 clx:ba w lxZq 0 (.slice (some ⟨g,0,none⟩) n n)
 vlZq:∀k,k<n→ba w g k (Vl k)
 by_:∀k,k<n→b8 w (Vl k) (L.getD k default).2
 at_:∀k,k<n→aF w g2 k ((L.getD k default).1:Nat)
 ne:∀k,(k=sxZq∨k=lxZq∨k=g∨k=g2∨∃j,j<n∧aJ (Vl j) k)→k≠db∧k≠lb
theorem WcB.ao {w':World}{n lxZq sxZq g:Nat}{L:List (Nat×List Int)}{Vl:Nat→Value}{g2:Nat}(h:WcB w db lb n lxZq sxZq sb g L Vl g2)(ho:af (fun k=>k=db∨k=lb) w w'):WcB w' db lb n lxZq sxZq sb g L Vl g2 where
 csx:=ho.cell h.csx fun e=>e.elim (h.ne sxZq (.inl rfl)).1 (h.ne sxZq (.inl rfl)).2
 clx:=ho.cell h.clx fun e=>e.elim (h.ne lxZq (.inr (.inl rfl))).1 (h.ne lxZq (.inr (.inl rfl))).2
 vlZq:=fun k hk=>ho.cell (h.vlZq k hk) fun e=>e.elim (h.ne g (.inr (.inr (.inl rfl)))).1 (h.ne g (.inr (.inr (.inl rfl)))).2
 by_:=fun k hk=>(h.by_ k hk).ao ho fun j hj e=>e.elim (h.ne j (.inr (.inr (.inr (.inr ⟨k,hk,hj⟩))))).1 (h.ne j (.inr (.inr (.inr (.inr ⟨k,hk,hj⟩))))).2
 at_:=fun k hk=>ho.cell (h.at_ k hk) fun e=>e.elim (h.ne g2 (.inr (.inr (.inr (.inl rfl))))).1 (h.ne g2 (.inr (.inr (.inr (.inl rfl))))).2
 ne:=h.ne
def WcRel (sb db lb:Nat)(V:Nat→Value)(sh:Nat→Int)(d:dH)(n lxZq sxZq g:Nat)(L:List (Nat×List Int))(Vl:Nat→Value)(g2:Nat)(w:World)(i:Value)(wr:World):Prop:=
 ∃(k:Nat) (dk:dH) (Vk:Nat→Value),k≤n∧i= .int .i64 k∧wrAll d L=wrAll dk (L.drop k)∧gF wr sb db lb Vk sh dk∧(∀j,gN db lb Vk j→gN db lb V j∨w.heap.size≤j)∧af (fun k=>k=db∨k=lb) w wr∧WcB wr db lb n lxZq sxZq sb g L Vl g2
theorem sto_close {n lxZq sxZq g g2:Nat}{L:List (Nat×List Int)}{Vl:Nat→Value}(h:gF w sb db lb V sh d)(hw:WcB w db lb n lxZq sxZq sb g L Vl g2)(hn:L.length=n)(NQ:n≤6)(hi:∀k,k<n→(L.getD k default).1<64∧(L.getD k default).2.length≤64∧sm (L.getD k default).2):
 Calls Tryz.prog 118 #[.slice (some ⟨g2,0,none⟩) n n,.pointer (some ⟨lxZq,0,none⟩),.pointer (some ⟨sxZq,0,none⟩)] w fun e w'=>e= .returned (.int .i64 (wrAll d L).2)∧StoP sb db lb V sh (wrAll d L).1 w w':=by
 have HH:=ae h;have HW:=ae hw;have HN:=ae hn;have Mh:=ae NQ;have HI:=ae hi;have zlZq:=hw.clx;clear h hw hn hi NQ
 go_enter Tryz.func118,Tryz.ntmps118
 go_wp2_with fail
 go_loopw [10] (fun i wr=>WcRel sb db lb V sh d n lxZq sxZq g L Vl g2 w i wr) (fun i _=>n - (intOf i).toNat)
 case atStart=>exact⟨0,d,V,Nat.zero_le _,rfl,by rw[List.drop_zero],HH,fun j hj=>.inl hj,af.ak _ _,HW⟩
 case round=>
  obtain⟨k,dk,Vk,hk,rfl,hwa,za,hkk,ho,hwc⟩:=hrel;have HWA:=ae hwa;have Io:=ae za;have HKK:=ae hkk;have HO:=ae ho;have HWC:=ae hwc;clear hwa za hkk ho hwc zlZq
  by_cases aO:k<n
  ·have mO:(k:Int)<n:=by omega
   have hk6:(k:Int)<6:=by have:=Mh.out;omega
   have cT:=ae aO;have y1:=HWC.vlZq k aO;have y2:=HWC.at_ k aO;have y3:=HWC.csx;have y4:=(dP Io).2.2.2.2;obtain⟨AkZq,ck,eVk,_,_,_⟩:=id (HWC.by_ k aO);rw[eVk]at y1;have HX:=aH (L.drop k=L.getD k default :: L.drop (k+1)) (by
    rw[List.drop_eq_getElem_cons (by have:=HN.out;omega)];simp[List.getD,show k<L.length from by have:=HN.out;omega])
   have HCW:=ae (sto_wr (Io.keep ((af.ak aA wr).drew)) (HI k aO).1 (HI k aO).2.1 (HI k aO).2.2 (by have:=HWC.by_ k aO;rw[eVk]at this;exact this.ao ((af.ak aA wr).drew) fun _ _=>id) fun j hj=>(HWC.ne j (.inr (.inr (.inr (.inr ⟨k,aO,by rw[eVk];exact hj⟩))))).1);clear aO hk eVk;generalize L.getD k default=x at *;obtain⟨xi,xlZq⟩:=x;dsimp only at *;have d2:wr.drew.cell? _=_:=y2;have d3:wr.drew.cell? _=_:=y3;have d4:wr.drew.cell? _=_:=y4;go_upto_region 4 with fail;refine kb (fun w':World=>ba w' sxZq 0 (.pointer (some ⟨sb,0,none⟩))∧ba w' sb 4 (.pointer (some ⟨db,0,none⟩))∧aF w' g2 k xi) 10 ?_ ?_
   ·first|exact⟨d3,d4,d2⟩|exact CL
   intro aX;refine eZ [0,1,2,3,4,5,6,7,8] ?_;refine lh 9 fun KcZq hK=>?_
   go_simp;refine HCW.mono ?_;rintro e w1 ⟨rfl,hp0⟩;have Ki:=hp0.undrew;obtain⟨V1,a1,b1,c1⟩:=id Ki;have CL:ba w1 sxZq 0 (.pointer (some ⟨sb,0,none⟩))∧ba w1 sb 4 (.pointer (some ⟨db,0,none⟩))∧aF w1 g2 k xi:=⟨(HWC.ao c1).csx,(dP a1).2.2.2.2,c1.cell y2 fun e=>e.elim (HWC.ne g2 (.inr (.inr (.inr (.inl rfl))))).1 (HWC.ne g2 (.inr (.inr (.inr (.inl rfl))))).2⟩;clear a1 b1 c1 hp0 V1;refine lj hK ?_ fun aX=>?_
   ·first|exact⟨d3,d4,d2⟩|exact CL
   clear hK;refine jz ?_;clear aX d2 d3 d4;go_upto_region 5 with fail;have Mb:=ae Ki;clear Ki y1 y2 y3 y4 HCW;generalize hwv:dk.write xi xlZq=dwZq at *;obtain⟨d1,e1⟩:=dwZq;have HWV:=ae hwv;clear hwv;dsimp only at *
   by_cases he:e1=0
   ·subst he;have HQ:=aH (WcRel sb db lb V sh d n lxZq sxZq g L Vl g2 w (.int .i64 ((k:Int)+1)) w1) (by
     obtain⟨V1,a,b,c⟩:=Mb.out;refine⟨k+1,d1,V1,cT,by simp,?_,a,fun j hj=>(b j hj).elim (HKK j) fun h=>.inr (Nat.le_trans HO.size h),HO.aE c fun k hk=>.inl hk,HWC.ao c⟩;rw[HWA.out,HX.out,wrAll,HWV.out,if_neg (fun h=>h rfl)])
    clear Mb HWC Io HKK HO HWA HX HWV;go_wp2_with fail
    go_roundw
    case rel=>(repeat first|exact HQ|(refine⟨HQ,?_⟩;(repeat(first|exact rfl|refine⟨rfl,?_⟩)))|apply Exists.intro)
    case measure=>simp[intOf];have:=cT.out;omega
   ·have heb:(e1 != 0)=true:=by simpa using he
    have HE:=ae he;clear he;go_wp2_with fail;go_ret;have e2:wrAll d L=(d1,e1):=by rw[HWA.out,HX.out,wrAll,HWV.out,if_pos HE.out]
    rw[e2];exact⟨rfl,StoP.trans Io HKK HO Mb⟩
  ·obtain rfl:k=n:=by omega
   clear aO hk;go_wp2_with fail;go_ret;have e2:wrAll d L=(dk,0):=by rw[HWA.out,List.drop_eq_nil_of_le (Nat.le_of_eq HN.out)];rfl
   rw[e2];exact⟨rfl,Vk,Io,HKK,HO⟩
end
end Go.Proofs.YtpcfhbeakecihaaGreat

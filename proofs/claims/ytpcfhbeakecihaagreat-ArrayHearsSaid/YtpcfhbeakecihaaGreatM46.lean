/- Lemmas. -/
import Derived.Test.YtpcfhbeakecihaaGreatM44
import Derived.Test.YtpcfhbeakecihaaGreatM45
set_option linter.all false
set_option maxHeartbeats 20000000
set_option maxRecDepth 100000
namespace Go.Proofs.YtpcfhbeakecihaaGreat
open Go.ChangeShapes Go.RowKit Go.WideShapes
def mA:dI:=⟨fun i=>[8,0,0,0,0,1,0,0,0].getD i 0,false⟩
def mB:dI:=⟨fun i=>[12,0,0,0,0,1,0,0,0].getD i 0,false⟩
theorem Me:mg mA 0=true:=aE
theorem Qn (w:World):(Instr.index 80 (.agg #[.nilFunc,.nilFunc,.nilFunc,.nilFunc,.nilFunc,.nilFunc,.nilFunc,.nilFunc,.func (.func 33) #[] #[],.func (.func 34) #[] #[],.func (.func 35) #[] #[],.func (.func 36) #[] #[],.nilFunc,.nilFunc,.nilFunc]) (.int .i64 8)).run Tryz.prog w= .ok (.func (.func 33) #[] #[]) w:=by kernel_rfl
theorem Qm (w:World):(binOp BinOp.eql 79 (.func (.func 33) #[] #[]) .nilFunc).run Tryz.prog w= .ok (.bool false) w:=by kernel_rfl
def Qx (ab:Nat)(w:World)(e:Ending)(w':World):Prop:=
 ∃g q v,e= .returned (.slice (some ⟨g,0,none⟩) 1 q)∧(∀j u,(wQ 1 v).toList[j]? =some u→aM w' g j u)∧cH w' v [0]∧aF w' ab 20 1∧af au w w'
section
variable {KO:bj}{i:KO.ι}{w:World}{cb mb:Nat}{c:aQ}{Aw:Value}{aP:Nat}{s:KO.σ}{D:Int→Option ll}
theorem ET {ab sb:Nat}{A:Option Addr}{n cp:Nat}{rd:Int}{lm:Value}{Q:Ending→World→Prop}(ha:Box w ab 77 (lL c (.slice A n cp) sb cb false rd lm))
 (hr:∀W,af au w W→Calls Tryz.prog 33 #[.pointer (some ⟨ab,0,none⟩),.agg (bd mA (.slice none 0 0))] W fun e w'=>(∃v,e= .returned v)∧Q e w'):
 Calls Tryz.prog 14 #[.pointer (some ⟨ab,0,none⟩),.agg (bd mA (.slice none 0 0))] w Q:=by
 have HA:=ae ha;have AH:=ae hr;clear ha hr
 go_enter Tryz.func14,Tryz.ntmps14
 go_upto_region 1 with fail;have HM:=ae<|Box.fresh w 37 (bd mA (.slice none 0 0));have al:=(af.ai au w).alloc (.cells (bd mA (.slice none 0 0)) 37);have HO:=ae al;have dZ:=ae<|al.ak HA id;change Code.wp _ _ _ _ (w.alloc (.cells (bd mA (.slice none 0 0)) 37));clear al;generalize w.alloc (.cells (bd mA (.slice none 0 0)) 37)=W1 at *;generalize w.heap.size=mb at *;have HR:=yj mA none 0 0 W1;rw[Me]at HR;have HR:=ae HR;have z0:aF W1 mb 0 8:=HM.ag rfl;have z1:aF W1 mb 1 0:=HM.ag rfl;have z2:aF W1 mb 2 0:=HM.ag rfl;have z3:aF W1 mb 3 0:=HM.ag rfl;have z4:aF W1 mb 4 0:=HM.ag rfl;have z5:aF W1 mb 5 1:=HM.ag rfl;have z6:aF W1 mb 6 0:=HM.ag rfl;have z7:aF W1 mb 7 0:=HM.ag rfl;have z8:aF W1 mb 8 0:=HM.ag rfl;have z9:aM W1 mb 9 (.bool false):=HM.ag rfl;have z10:aM W1 mb 10 (.slice none 0 0):=HM.ag rfl;have Uw:aM W1 ab 19 (.bool false):=dZ.ag rfl;go_upto_region 3 with(go_at_call 32;refine HR.mono ?_;rintro e W2 ⟨rfl,bq⟩);have Dj:=ae<|bq.ak HM id;have bu:=ae<|HO.trans bq;clear z0 z1 z2 z3 z4 z5 z6 z7 z8 z9 z10 Uw HR HM dZ HO bq;have z0:aF W2 mb 0 8:=Dj.ag rfl;have fX:=ae<|AH W2 bu;have hd8:=Qn;have hf8:=Qm;go_wp2_with (first|(refine iy (bd mA (.slice none 0 0)) Dj Tryz.underlying37 ?_)|(go_at_call 33;refine fX.mono ?_;rintro e W3 ⟨⟨v,rfl⟩,hq⟩));exact hq
theorem CP (w:World):Calls Tryz.prog 27 #[] w fun e w'=>e= .returned (.agg (ao lc (.slice none 0 0)))∧af au w w':=by
 have HB:=ae<|Box.fresh w 25 #[.int .i64 0,.int .i64 0,.int .i64 0,.int .i64 0,.int .i64 0,.int .i64 0,.int .i64 0,.int .i64 0,.int .i64 0,.int .i64 0,.int .i64 0,.int .i64 0,.int .i64 0,.int .i64 0,.int .i64 0,.int .i64 0,.slice none 0 0];have HO:=aq (af au w (w.alloc (.cells #[.int .i64 0,.int .i64 0,.int .i64 0,.int .i64 0,.int .i64 0,.int .i64 0,.int .i64 0,.int .i64 0,.int .i64 0,.int .i64 0,.int .i64 0,.int .i64 0,.int .i64 0,.int .i64 0,.int .i64 0,.int .i64 0,.slice none 0 0] 25))) ((af.ai au w).alloc _)
 go_enter Tryz.func27,Tryz.ntmps27
 go_upto_region 1 with fail;generalize w.alloc (.cells #[.int .i64 0,.int .i64 0,.int .i64 0,.int .i64 0,.int .i64 0,.int .i64 0,.int .i64 0,.int .i64 0,.int .i64 0,.int .i64 0,.int .i64 0,.int .i64 0,.int .i64 0,.int .i64 0,.int .i64 0,.int .i64 0,.slice none 0 0] 25)=W at *;go_wp2_with (refine iP (ao lc (.slice none 0 0)) HB (Qf lc none 0 0) ?_)
 (try simp only[Exit.inBlock,Exit.then])
 refine bodyPost_ret (results_cell_row rfl _ _ w.heap.size _ (ao lc (.slice none 0 0)) (0,0) _ rfl (HB.aw _) Tryz.underlying25 rfl aS) rfl ?_;exact⟨rfl,HO.aw (.inr (dX _)) _⟩
theorem Jg {ab:Nat}{rd:Int}(w:World)(h:aF w ab 20 rd):Calls Tryz.prog 26 #[.pointer (some ⟨ab,0,none⟩)] w fun e w'=>e= .returned (.int .i64 rd)∧w=w':=by
 go_enter Tryz.func26,Tryz.ntmps26
 go_wp2_with fail;go_ret;exact⟨rfl,rfl⟩
theorem RG (w:World):Calls Tryz.prog 7 #[] w fun e w'=>e= .returned (.bool true)∧af au w w':=by
 go_enter Tryz.func7,Tryz.ntmps7
 go_wp2_with fail;refine(CP w).mono ?_;rintro e W1 ⟨rfl,aK⟩;have bc:=ae aK;clear aK;go_wp2_with fail;refine(O3 W1).mono ?_;rintro e W2 ⟨db,lb,rfl,hd2,hl2,ez,bq⟩;have HN:=ae<|Ql (A:=none) (n:=0) (cp:=0) (FY 2 aE) xM W2 ⟨rfl,dX _,fH _,fun i hi=>absurd hi (Nat.not_lt_zero _)⟩ hd2 aE aE (fun i x hx=>by cases hx) rfl;have bu:=ae<|bc.trans bq;clear hd2 hl2 ez bq bc;go_wp2_with fail;refine HN.mono ?_;rintro e W3 ⟨i,ab,cb,mb,sb,Aw,lm,rfl,ha3,hc3,Gd,Gj,Db,hba,bV⟩;have gj:=ae ha3;have JL:=aq (w.heap.size≤ab) (by have:=bu.size;omega);have AH:=ae<|fun W (ho:af au W3 W)=>xz (m:=mA) (b:=1) (size:=1) rfl aE rfl aE rfl aE (ho.ak ha3 id) (hc3.keep ho) (fun k hk=>by have:=Gj k hk;omega) (Gd.keep ho) (by rw[(ux 1).nil];simp);have bI:=ae<|bu.trans bV;clear ha3 hc3 Gd Gj Db hba bV HN bu;have HH:=ae (ET (Q:=Qx ab w) gj (fun W ho=>(AH W ho).mono fun e w' h=>by
  obtain⟨g,q,v,rfl,h2,h3,h4,h5,h6⟩:=h;exact⟨⟨_,rfl⟩,g,q,v,rfl,h2,by rw[show(1:Nat)+1=2 from rfl]at h3;exact h3,h4.ag rfl,(bI.trans ho).aG h5 fun k hk=>.inr (by have h7:k=ab:=hk;have:=JL.out;omega)⟩))
 go_upto_region 5 with(go_at_call 14;refine HH.mono ?_;rintro e W4 ⟨g,q,v,rfl,De,Z9,QM,ey⟩);obtain⟨B,cv,uB,hcv,hl0,hsv⟩:=Z9;have AD:=aq (cH W4 v [0]) (⟨B,cv,uB,hcv,hl0,hsv⟩);have cr:=ae ey;clear hcv hl0 hsv ey AH HH gj bI;subst uB;have k0:aF W4 g 0 12:=De 0 _ rfl;have k1:aF W4 g 1 0:=De 1 _ rfl;have k2:aF W4 g 2 0:=De 2 _ rfl;have k3:aF W4 g 3 0:=De 3 _ rfl;have k4:aF W4 g 4 0:=De 4 _ rfl;have k5:aF W4 g 5 1:=De 5 _ rfl;have k6:aF W4 g 6 0:=De 6 _ rfl;have k7:aF W4 g 7 0:=De 7 _ rfl;have k8:aF W4 g 8 0:=De 8 _ rfl;have k9:aM W4 g 9 (.bool false):=De 9 _ rfl;have k10:aM W4 g 10 (.slice B ([0]:List Int).length cv):=De 10 _ rfl;clear De;have al:=(af.ai au W4).alloc (.cells #[.int .u8 0] 5);have HZ:=aq (cH (W4.alloc (.cells #[.int .u8 0] 5)) (.slice (some ⟨W4.heap.size,0,none⟩) 1 1) [0]) (⟨_,1,rfl,dX _,aE,kg W4 (.int .u8 0) 5⟩);have HS:=ae<|IF mB mB B (some ⟨W4.heap.size,0,none⟩) 1 cv 1 1 [0] [0] (W4.alloc (.cells #[.int .u8 0] 5)) (AD.ar al fun _ _=>id) HZ;rw[show mu mB mB [0] [0]=true by decide]at HS;have Dt:=ae al;have jh:=ae QM;clear al QM;rw[show([0]:List Int).length=1 from rfl]at k10;go_wp2_with (first|(go_at_call 28;refine HS.mono ?_;rintro e W5 ⟨rfl,fz⟩;have r5:aF W5 ab 20 1:=fz.cell (Dt.cell jh id) id)|(go_at_call 26;refine(Jg _ r5).mono ?_;rintro e W6 ⟨rfl,rfl⟩));go_ret;exact⟨rfl,(cr.trans Dt).trans fz⟩
end
end Go.Proofs.YtpcfhbeakecihaaGreat

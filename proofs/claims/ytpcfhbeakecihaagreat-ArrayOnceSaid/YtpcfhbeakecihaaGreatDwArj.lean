/- texts Arj -/
import Derived.Test.YtpcfhbeakecihaaGreatDwAri
import Derived.Test.YtpcfhbeakecihaaGreatM3
import Derived.Test.YtpcfhbeakecihaaGreatM2
import Derived.Test.YtpcfhbeakecihaaGreatM1
import Derived.Test.YtpcfhbeakecihaaGreatM4
import Derived.Test.YtpcfhbeakecihaaGreatM5
set_option linter.all false
set_option maxHeartbeats 20000000
set_option maxRecDepth 100000
namespace Go.Proofs.YtpcfhbeakecihaaGreat
open Go.RowKit Go.ChangeShapes Go.WideShapes
theorem hear_do1 (w:World):(Instr.index 80 (.agg #[.nilFunc,.nilFunc,.nilFunc,.nilFunc,.nilFunc,.nilFunc,.nilFunc,.nilFunc,.func (.func 33) #[] #[],.func (.func 34) #[] #[],.func (.func 35) #[] #[],.func (.func 36) #[] #[],.nilFunc,.nilFunc,.nilFunc]) (ah 1)).run Tryz.prog w= .ok (.nilFunc) w:=by kernel_rfl
theorem hear_do2 (w:World):(Instr.index 80 (.agg #[.nilFunc,.nilFunc,.nilFunc,.nilFunc,.nilFunc,.nilFunc,.nilFunc,.nilFunc,.func (.func 33) #[] #[],.func (.func 34) #[] #[],.func (.func 35) #[] #[],.func (.func 36) #[] #[],.nilFunc,.nilFunc,.nilFunc]) (ah 2)).run Tryz.prog w= .ok (.nilFunc) w:=by kernel_rfl
theorem hear_do3 (w:World):(Instr.index 80 (.agg #[.nilFunc,.nilFunc,.nilFunc,.nilFunc,.nilFunc,.nilFunc,.nilFunc,.nilFunc,.func (.func 33) #[] #[],.func (.func 34) #[] #[],.func (.func 35) #[] #[],.func (.func 36) #[] #[],.nilFunc,.nilFunc,.nilFunc]) (ah 3)).run Tryz.prog w= .ok (.nilFunc) w:=by kernel_rfl
theorem hear_do4 (w:World):(Instr.index 80 (.agg #[.nilFunc,.nilFunc,.nilFunc,.nilFunc,.nilFunc,.nilFunc,.nilFunc,.nilFunc,.func (.func 33) #[] #[],.func (.func 34) #[] #[],.func (.func 35) #[] #[],.func (.func 36) #[] #[],.nilFunc,.nilFunc,.nilFunc]) (ah 4)).run Tryz.prog w= .ok (.nilFunc) w:=by kernel_rfl
theorem hear_do5 (w:World):(Instr.index 80 (.agg #[.nilFunc,.nilFunc,.nilFunc,.nilFunc,.nilFunc,.nilFunc,.nilFunc,.nilFunc,.func (.func 33) #[] #[],.func (.func 34) #[] #[],.func (.func 35) #[] #[],.func (.func 36) #[] #[],.nilFunc,.nilFunc,.nilFunc]) (ah 5)).run Tryz.prog w= .ok (.nilFunc) w:=by kernel_rfl
theorem hear_do6 (w:World):(Instr.index 80 (.agg #[.nilFunc,.nilFunc,.nilFunc,.nilFunc,.nilFunc,.nilFunc,.nilFunc,.nilFunc,.func (.func 33) #[] #[],.func (.func 34) #[] #[],.func (.func 35) #[] #[],.func (.func 36) #[] #[],.nilFunc,.nilFunc,.nilFunc]) (ah 6)).run Tryz.prog w= .ok (.nilFunc) w:=by kernel_rfl
theorem hear_do7 (w:World):(Instr.index 80 (.agg #[.nilFunc,.nilFunc,.nilFunc,.nilFunc,.nilFunc,.nilFunc,.nilFunc,.nilFunc,.func (.func 33) #[] #[],.func (.func 34) #[] #[],.func (.func 35) #[] #[],.func (.func 36) #[] #[],.nilFunc,.nilFunc,.nilFunc]) (ah 7)).run Tryz.prog w= .ok (.nilFunc) w:=by kernel_rfl
theorem hear_do8 (w:World):(Instr.index 80 (.agg #[.nilFunc,.nilFunc,.nilFunc,.nilFunc,.nilFunc,.nilFunc,.nilFunc,.nilFunc,.func (.func 33) #[] #[],.func (.func 34) #[] #[],.func (.func 35) #[] #[],.func (.func 36) #[] #[],.nilFunc,.nilFunc,.nilFunc]) (ah 8)).run Tryz.prog w= .ok (.func (.func 33) #[] #[]) w:=by kernel_rfl
theorem hear_do9 (w:World):(Instr.index 80 (.agg #[.nilFunc,.nilFunc,.nilFunc,.nilFunc,.nilFunc,.nilFunc,.nilFunc,.nilFunc,.func (.func 33) #[] #[],.func (.func 34) #[] #[],.func (.func 35) #[] #[],.func (.func 36) #[] #[],.nilFunc,.nilFunc,.nilFunc]) (ah 9)).run Tryz.prog w= .ok (.func (.func 34) #[] #[]) w:=by kernel_rfl
theorem hear_do10 (w:World):(Instr.index 80 (.agg #[.nilFunc,.nilFunc,.nilFunc,.nilFunc,.nilFunc,.nilFunc,.nilFunc,.nilFunc,.func (.func 33) #[] #[],.func (.func 34) #[] #[],.func (.func 35) #[] #[],.func (.func 36) #[] #[],.nilFunc,.nilFunc,.nilFunc]) (ah 10)).run Tryz.prog w= .ok (.func (.func 35) #[] #[]) w:=by kernel_rfl
theorem hear_do11 (w:World):(Instr.index 80 (.agg #[.nilFunc,.nilFunc,.nilFunc,.nilFunc,.nilFunc,.nilFunc,.nilFunc,.nilFunc,.func (.func 33) #[] #[],.func (.func 34) #[] #[],.func (.func 35) #[] #[],.func (.func 36) #[] #[],.nilFunc,.nilFunc,.nilFunc]) (ah 11)).run Tryz.prog w= .ok (.func (.func 36) #[] #[]) w:=by kernel_rfl
theorem hear_do12 (w:World):(Instr.index 80 (.agg #[.nilFunc,.nilFunc,.nilFunc,.nilFunc,.nilFunc,.nilFunc,.nilFunc,.nilFunc,.func (.func 33) #[] #[],.func (.func 34) #[] #[],.func (.func 35) #[] #[],.func (.func 36) #[] #[],.nilFunc,.nilFunc,.nilFunc]) (ah 12)).run Tryz.prog w= .ok (.nilFunc) w:=by kernel_rfl
theorem hear_do13 (w:World):(Instr.index 80 (.agg #[.nilFunc,.nilFunc,.nilFunc,.nilFunc,.nilFunc,.nilFunc,.nilFunc,.nilFunc,.func (.func 33) #[] #[],.func (.func 34) #[] #[],.func (.func 35) #[] #[],.func (.func 36) #[] #[],.nilFunc,.nilFunc,.nilFunc]) (ah 13)).run Tryz.prog w= .ok (.nilFunc) w:=by kernel_rfl
theorem hear_do14 (w:World):(Instr.index 80 (.agg #[.nilFunc,.nilFunc,.nilFunc,.nilFunc,.nilFunc,.nilFunc,.nilFunc,.nilFunc,.func (.func 33) #[] #[],.func (.func 34) #[] #[],.func (.func 35) #[] #[],.func (.func 36) #[] #[],.nilFunc,.nilFunc,.nilFunc]) (ah 14)).run Tryz.prog w= .ok (.nilFunc) w:=by kernel_rfl
theorem hear_fn8 (w:World):(binOp BinOp.eql 79 (.func (.func 33) #[] #[]) .nilFunc).run Tryz.prog w= .ok (.bool false) w:=by kernel_rfl
theorem hear_fn9 (w:World):(binOp BinOp.eql 79 (.func (.func 34) #[] #[]) .nilFunc).run Tryz.prog w= .ok (.bool false) w:=by kernel_rfl
theorem hear_fn10 (w:World):(binOp BinOp.eql 79 (.func (.func 35) #[] #[]) .nilFunc).run Tryz.prog w= .ok (.bool false) w:=by kernel_rfl
theorem hear_fn11 (w:World):(binOp BinOp.eql 79 (.func (.func 36) #[] #[]) .nilFunc).run Tryz.prog w= .ok (.bool false) w:=by kernel_rfl
theorem hear_fn0 (w:World):(binOp BinOp.eql 79 .nilFunc .nilFunc).run Tryz.prog w= .ok (.bool true) w:=by kernel_rfl
section
variable {Z:ZN}{c:aN}{hP:dJ c}{hk:2<3}{a:ArrA (jW c 2 hP hk)}{M:AMZq (jW c 2 hP hk).σ}{w:World}{m:ec}{A:Option Addr}{n cp:Nat}{t:List Int}
theorem ara_hear (h:ArrB Z (jW c 2 hP hk) c a M w)(hd:pZ Z w (.slice A n cp) t)(hB:sm t)(qb:(jW c 2 hP hk).sp.sk M.s+1<jH)(J9:M.reads<1000000):
 Calls Tryz.prog 14 #[aI a.ab,.agg (bc m (.slice A n cp))] w (TelP Z (jW c 2 hP hk) c a (aHearM (jW c 2 hP hk).sp c (sr c) M m t) (aHearT (jW c 2 hP hk).sp c (sr c) M m t) w):=by
 obtain rfl:=hd.1.len.1;have HH:=ae h;have HDT:=ae hd;have Mo:=ae hB;have IL:=ae qb;have HRDS:=ae J9;have My:=aH (aHearM (jW c 2 hP hk).sp c (sr c) M m t=if M.down=true∨nW m t.length=false then M else if m.f 0=8 then aReadM (jW c 2 hP hk).sp c M (m.f 5) (m.f 6)else if m.f 0=9 then aWriteM (jW c 2 hP hk).sp c (sr c) M m t else if m.f 0=10 then(if c.f 4=2∧m.f 6=3 then aPutM (jW c 2 hP hk).sp c M (m.f 5) t (m.f 6)else M)else if m.f 0=11 then aDropM (jW c 2 hP hk).sp M (m.f 5)else M) (rfl);have HET:=aH (aHearT (jW c 2 hP hk).sp c (sr c) M m t=if M.down=true∨nW m t.length=false then[]else if m.f 0=8 then aReadT (jW c 2 hP hk).sp c M (m.f 5) (m.f 6)else if m.f 0=9 then aWriteT (jW c 2 hP hk).sp c (sr c) M m t else[]) (rfl);clear h hd hB qb J9
 go_enter Tryz.func14,Tryz.ntmps14
 go_upto_region 1 with fail;have ho:=(af.ak aA w).alloc (.cells (bc m (.slice A t.length cp)) 37);have HQ:=ae (Box.fresh w 37 (bc m (.slice A t.length cp)));have bw:=ae ho;have H1:=ae (HH.keep ho);change Code.wp _ _ _ _ (w.alloc (.cells (bc m (.slice A t.length cp)) 37));clear ho;generalize w.alloc (.cells (bc m (.slice A t.length cp)) 37)=W1 at *;generalize Kd:w.heap.size=qbZq at *;have HQB:=ae Kd;clear Kd;have HDT1:=ae (HDT.keep bw);have M4:ba W1 a.ab 19 (.bool M.down):=H1.az.ag rfl
 cases QI:M.down with
 |true=>
  rw[QI]at M4;have HE:=aH (aHearM (jW c 2 hP hk).sp c (sr c) M m t=M∧aHearT (jW c 2 hP hk).sp c (sr c) M m t= []) (⟨My.trans (if_pos (.inl QI)),HET.trans (if_pos (.inl QI))⟩);clear QI;go_wp2_with fail;go_ret;exact⟨_,rfl,by rw[HE.2];exact dh.nil _ _ _,by rw[HE.1];exact ArrP.nil HH bw⟩
 |false=>
  rw[QI]at M4;have HR:=th m A t.length cp W1;have z0:aF W1 qbZq 0 (m.f 0):=HQ.ag rfl;have z1:aF W1 qbZq 1 (m.f 1):=HQ.ag rfl;have z2:aF W1 qbZq 2 (m.f 2):=HQ.ag rfl;have z3:aF W1 qbZq 3 (m.f 3):=HQ.ag rfl;have z4:aF W1 qbZq 4 (m.f 4):=HQ.ag rfl;have z5:aF W1 qbZq 5 (m.f 5):=HQ.ag rfl;have z6:aF W1 qbZq 6 (m.f 6):=HQ.ag rfl;have z7:aF W1 qbZq 7 (m.f 7):=HQ.ag rfl;have z8:aF W1 qbZq 8 (m.f 8):=HQ.ag rfl;have z9:ba W1 qbZq 9 (.bool m.g):=HQ.ag rfl;have MZ:ba W1 qbZq 10 (.slice A t.length cp):=HQ.ag rfl
  cases ud:nW m t.length with
  |false=>
   have HE:=aH (aHearM (jW c 2 hP hk).sp c (sr c) M m t=M∧aHearT (jW c 2 hP hk).sp c (sr c) M m t= []) (⟨My.trans (if_pos (.inr ud)),HET.trans (if_pos (.inr ud))⟩);rw[ud]at HR;have HR:=ae HR;clear QI ud;unfold bc at HR;go_wp2_with (go_at_call 32;refine HR.mono ?_;rintro e W2 ⟨rfl,bd⟩);go_ret;exact⟨_,rfl,by rw[HE.2];exact dh.nil _ _ _,by rw[HE.1];exact ArrP.nil HH (bw.trans bd)⟩
  |true=>
   have ll:¬(M.down=true∨nW m t.length=false):=fun e=>e.elim (fun e=>by rw[QI]at e;cases e) fun e=>by rw[ud]at e;cases e
   have HEM2:=ae (My.trans (if_neg ll));have HET2:=ae (HET.trans (if_neg ll));have hkd:1≤m.f 0∧m.f 0≤14:=by
    have h9:=ud;unfold nW at h9;simp only[Bool.and_eq_true,decide_eq_true_eq]at h9;exact h9.1
   rw[ud]at HR;have HR:=ae HR;clear QI ud ll My HET;unfold bc at HR;go_upto_region 3 with(go_at_call 32;refine HR.mono ?_;rintro e W2 ⟨rfl,bd⟩);have bR:=ae (bw.trans bd);have Pn:=ae (bd.az HQ id);have H2:=ae (H1.keep bd);have HDT2:=ae (HDT1.keep bd);clear bd z0 z1 z2 z3 z4 z5 z6 z7 z8 z9 MZ M4 HR H1 HQ HDT1;have z0:aF W2 qbZq 0 (m.f 0):=Pn.ag rfl;rcases(show m.f 0=8∨m.f 0=9∨m.f 0=10∨m.f 0=11∨m.f 0=1∨m.f 0=2∨m.f 0=3∨m.f 0=4∨m.f 0=5∨m.f 0=6∨m.f 0=7∨m.f 0=12∨m.f 0=13∨m.f 0=14 by omega)with hm|hm|hm|hm|hm|hm|hm|hm|hm|hm|hm|hm|hm|hm
   ·have e9:¬m.f 0=9:=by rw[hm];decide
    have C7:¬m.f 0=10:=by rw[hm];decide
    have e11:¬m.f 0=11:=by rw[hm];decide
    have HE:=aH (aHearM (jW c 2 hP hk).sp c (sr c) M m t=aReadM (jW c 2 hP hk).sp c M (m.f 5) (m.f 6)∧aHearT (jW c 2 hP hk).sp c (sr c) M m t=aReadT (jW c 2 hP hk).sp c M (m.f 5) (m.f 6)) (⟨HEM2.trans (if_pos hm),HET2.trans (if_pos hm)⟩);rw[hm]at z0;have hdo:=hear_do8;have hfn:=hear_fn8;have HC:=ae (ara_read (m:=m) (A:=A) (n:=t.length) (cp:=cp) H2 IL HRDS);go_wp2_with (first|(refine pL (bc m (.slice A t.length cp)) Pn Tryz.underlying37 ?_)|(go_at_call 33;refine HC.mono ?_;rintro e W3 ⟨u,rfl,Ah,hp3⟩));go_ret;exact⟨_,rfl,by rw[HE.2];exact Ah.low bR.size,by rw[HE.1];exact hp3.back bR⟩
   ·have e8:¬m.f 0=8:=by rw[hm];decide
    have C7:¬m.f 0=10:=by rw[hm];decide
    have e11:¬m.f 0=11:=by rw[hm];decide
    have HE:=aH (aHearM (jW c 2 hP hk).sp c (sr c) M m t=aWriteM (jW c 2 hP hk).sp c (sr c) M m t∧aHearT (jW c 2 hP hk).sp c (sr c) M m t=aWriteT (jW c 2 hP hk).sp c (sr c) M m t) (⟨HEM2.trans ((if_neg e8).trans (if_pos hm)),HET2.trans ((if_neg e8).trans (if_pos hm))⟩);rw[hm]at z0;have hdo:=hear_do9;have hfn:=hear_fn9;have HC:=ae (ara_write (m:=m) H2 HDT2 Mo (by have:=IL.out;omega));go_wp2_with (first|(refine pL (bc m (.slice A t.length cp)) Pn Tryz.underlying37 ?_)|(go_at_call 34;refine HC.mono ?_;rintro e W3 ⟨u,rfl,Ah,hp3⟩));go_ret;exact⟨_,rfl,by rw[HE.2];exact Ah.low bR.size,by rw[HE.1];exact hp3.back bR⟩
   ·have e8:¬m.f 0=8:=by rw[hm];decide
    have e9:¬m.f 0=9:=by rw[hm];decide
    have e11:¬m.f 0=11:=by rw[hm];decide
    have HE:=aH (aHearM (jW c 2 hP hk).sp c (sr c) M m t=(if c.f 4=2∧m.f 6=3 then aPutM (jW c 2 hP hk).sp c M (m.f 5) t (m.f 6)else M)∧aHearT (jW c 2 hP hk).sp c (sr c) M m t= []) (⟨HEM2.trans ((if_neg e8).trans ((if_neg e9).trans (if_pos hm))),HET2.trans ((if_neg e8).trans (if_neg e9))⟩);rw[hm]at z0;have hdo:=hear_do10;have hfn:=hear_fn10;have HC:=ae (ara_demote (m:=m) H2 HDT2 Mo (by have:=IL.out;omega));go_wp2_with (first|(refine pL (bc m (.slice A t.length cp)) Pn Tryz.underlying37 ?_)|(go_at_call 35;refine HC.mono ?_;rintro e W3 ⟨u,rfl,Ah,hp3⟩));go_ret;exact⟨_,rfl,by rw[HE.2];exact Ah.low bR.size,by rw[HE.1];exact hp3.back bR⟩
   ·have e8:¬m.f 0=8:=by rw[hm];decide
    have e9:¬m.f 0=9:=by rw[hm];decide
    have C7:¬m.f 0=10:=by rw[hm];decide
    have HE:=aH (aHearM (jW c 2 hP hk).sp c (sr c) M m t=aDropM (jW c 2 hP hk).sp M (m.f 5)∧aHearT (jW c 2 hP hk).sp c (sr c) M m t= []) (⟨HEM2.trans ((if_neg e8).trans ((if_neg e9).trans ((if_neg C7).trans (if_pos hm)))),HET2.trans ((if_neg e8).trans (if_neg e9))⟩);rw[hm]at z0;have hdo:=hear_do11;have hfn:=hear_fn11;have HC:=ae (ara_drop (m:=m) (A:=A) (n:=t.length) (cp:=cp) H2);go_wp2_with (first|(refine pL (bc m (.slice A t.length cp)) Pn Tryz.underlying37 ?_)|(go_at_call 36;refine HC.mono ?_;rintro e W3 ⟨u,rfl,Ah,hp3⟩));go_ret;exact⟨_,rfl,by rw[HE.2];exact Ah.low bR.size,by rw[HE.1];exact hp3.back bR⟩
   ·have e8:¬m.f 0=8:=by rw[hm];decide
    have e9:¬m.f 0=9:=by rw[hm];decide
    have C7:¬m.f 0=10:=by rw[hm];decide
    have e11:¬m.f 0=11:=by rw[hm];decide
    have HE:=aH (aHearM (jW c 2 hP hk).sp c (sr c) M m t=M∧aHearT (jW c 2 hP hk).sp c (sr c) M m t= []) (⟨HEM2.trans ((if_neg e8).trans ((if_neg e9).trans ((if_neg C7).trans (if_neg e11)))),HET2.trans ((if_neg e8).trans (if_neg e9))⟩);rw[hm]at z0;have hdo:=hear_do1;have hfn:=hear_fn0;go_wp2_with fail;go_ret;exact⟨_,rfl,by rw[HE.2];exact dh.nil _ _ _,by rw[HE.1];exact ArrP.nil HH bR⟩
   ·have e8:¬m.f 0=8:=by rw[hm];decide
    have e9:¬m.f 0=9:=by rw[hm];decide
    have C7:¬m.f 0=10:=by rw[hm];decide
    have e11:¬m.f 0=11:=by rw[hm];decide
    have HE:=aH (aHearM (jW c 2 hP hk).sp c (sr c) M m t=M∧aHearT (jW c 2 hP hk).sp c (sr c) M m t= []) (⟨HEM2.trans ((if_neg e8).trans ((if_neg e9).trans ((if_neg C7).trans (if_neg e11)))),HET2.trans ((if_neg e8).trans (if_neg e9))⟩);rw[hm]at z0;have hdo:=hear_do2;have hfn:=hear_fn0;go_wp2_with fail;go_ret;exact⟨_,rfl,by rw[HE.2];exact dh.nil _ _ _,by rw[HE.1];exact ArrP.nil HH bR⟩
   ·have e8:¬m.f 0=8:=by rw[hm];decide
    have e9:¬m.f 0=9:=by rw[hm];decide
    have C7:¬m.f 0=10:=by rw[hm];decide
    have e11:¬m.f 0=11:=by rw[hm];decide
    have HE:=aH (aHearM (jW c 2 hP hk).sp c (sr c) M m t=M∧aHearT (jW c 2 hP hk).sp c (sr c) M m t= []) (⟨HEM2.trans ((if_neg e8).trans ((if_neg e9).trans ((if_neg C7).trans (if_neg e11)))),HET2.trans ((if_neg e8).trans (if_neg e9))⟩);rw[hm]at z0;have hdo:=hear_do3;have hfn:=hear_fn0;go_wp2_with fail;go_ret;exact⟨_,rfl,by rw[HE.2];exact dh.nil _ _ _,by rw[HE.1];exact ArrP.nil HH bR⟩
   ·have e8:¬m.f 0=8:=by rw[hm];decide
    have e9:¬m.f 0=9:=by rw[hm];decide
    have C7:¬m.f 0=10:=by rw[hm];decide
    have e11:¬m.f 0=11:=by rw[hm];decide
    have HE:=aH (aHearM (jW c 2 hP hk).sp c (sr c) M m t=M∧aHearT (jW c 2 hP hk).sp c (sr c) M m t= []) (⟨HEM2.trans ((if_neg e8).trans ((if_neg e9).trans ((if_neg C7).trans (if_neg e11)))),HET2.trans ((if_neg e8).trans (if_neg e9))⟩);rw[hm]at z0;have hdo:=hear_do4;have hfn:=hear_fn0;go_wp2_with fail;go_ret;exact⟨_,rfl,by rw[HE.2];exact dh.nil _ _ _,by rw[HE.1];exact ArrP.nil HH bR⟩
   ·have e8:¬m.f 0=8:=by rw[hm];decide
    have e9:¬m.f 0=9:=by rw[hm];decide
    have C7:¬m.f 0=10:=by rw[hm];decide
    have e11:¬m.f 0=11:=by rw[hm];decide
    have HE:=aH (aHearM (jW c 2 hP hk).sp c (sr c) M m t=M∧aHearT (jW c 2 hP hk).sp c (sr c) M m t= []) (⟨HEM2.trans ((if_neg e8).trans ((if_neg e9).trans ((if_neg C7).trans (if_neg e11)))),HET2.trans ((if_neg e8).trans (if_neg e9))⟩);rw[hm]at z0;have hdo:=hear_do5;have hfn:=hear_fn0;go_wp2_with fail;go_ret;exact⟨_,rfl,by rw[HE.2];exact dh.nil _ _ _,by rw[HE.1];exact ArrP.nil HH bR⟩
   ·have e8:¬m.f 0=8:=by rw[hm];decide
    have e9:¬m.f 0=9:=by rw[hm];decide
    have C7:¬m.f 0=10:=by rw[hm];decide
    have e11:¬m.f 0=11:=by rw[hm];decide
    have HE:=aH (aHearM (jW c 2 hP hk).sp c (sr c) M m t=M∧aHearT (jW c 2 hP hk).sp c (sr c) M m t= []) (⟨HEM2.trans ((if_neg e8).trans ((if_neg e9).trans ((if_neg C7).trans (if_neg e11)))),HET2.trans ((if_neg e8).trans (if_neg e9))⟩);rw[hm]at z0;have hdo:=hear_do6;have hfn:=hear_fn0;go_wp2_with fail;go_ret;exact⟨_,rfl,by rw[HE.2];exact dh.nil _ _ _,by rw[HE.1];exact ArrP.nil HH bR⟩
   ·have e8:¬m.f 0=8:=by rw[hm];decide
    have e9:¬m.f 0=9:=by rw[hm];decide
    have C7:¬m.f 0=10:=by rw[hm];decide
    have e11:¬m.f 0=11:=by rw[hm];decide
    have HE:=aH (aHearM (jW c 2 hP hk).sp c (sr c) M m t=M∧aHearT (jW c 2 hP hk).sp c (sr c) M m t= []) (⟨HEM2.trans ((if_neg e8).trans ((if_neg e9).trans ((if_neg C7).trans (if_neg e11)))),HET2.trans ((if_neg e8).trans (if_neg e9))⟩);rw[hm]at z0;have hdo:=hear_do7;have hfn:=hear_fn0;go_wp2_with fail;go_ret;exact⟨_,rfl,by rw[HE.2];exact dh.nil _ _ _,by rw[HE.1];exact ArrP.nil HH bR⟩
   ·have e8:¬m.f 0=8:=by rw[hm];decide
    have e9:¬m.f 0=9:=by rw[hm];decide
    have C7:¬m.f 0=10:=by rw[hm];decide
    have e11:¬m.f 0=11:=by rw[hm];decide
    have HE:=aH (aHearM (jW c 2 hP hk).sp c (sr c) M m t=M∧aHearT (jW c 2 hP hk).sp c (sr c) M m t= []) (⟨HEM2.trans ((if_neg e8).trans ((if_neg e9).trans ((if_neg C7).trans (if_neg e11)))),HET2.trans ((if_neg e8).trans (if_neg e9))⟩);rw[hm]at z0;have hdo:=hear_do12;have hfn:=hear_fn0;go_wp2_with fail;go_ret;exact⟨_,rfl,by rw[HE.2];exact dh.nil _ _ _,by rw[HE.1];exact ArrP.nil HH bR⟩
   ·have e8:¬m.f 0=8:=by rw[hm];decide
    have e9:¬m.f 0=9:=by rw[hm];decide
    have C7:¬m.f 0=10:=by rw[hm];decide
    have e11:¬m.f 0=11:=by rw[hm];decide
    have HE:=aH (aHearM (jW c 2 hP hk).sp c (sr c) M m t=M∧aHearT (jW c 2 hP hk).sp c (sr c) M m t= []) (⟨HEM2.trans ((if_neg e8).trans ((if_neg e9).trans ((if_neg C7).trans (if_neg e11)))),HET2.trans ((if_neg e8).trans (if_neg e9))⟩);rw[hm]at z0;have hdo:=hear_do13;have hfn:=hear_fn0;go_wp2_with fail;go_ret;exact⟨_,rfl,by rw[HE.2];exact dh.nil _ _ _,by rw[HE.1];exact ArrP.nil HH bR⟩
   ·have e8:¬m.f 0=8:=by rw[hm];decide
    have e9:¬m.f 0=9:=by rw[hm];decide
    have C7:¬m.f 0=10:=by rw[hm];decide
    have e11:¬m.f 0=11:=by rw[hm];decide
    have HE:=aH (aHearM (jW c 2 hP hk).sp c (sr c) M m t=M∧aHearT (jW c 2 hP hk).sp c (sr c) M m t= []) (⟨HEM2.trans ((if_neg e8).trans ((if_neg e9).trans ((if_neg C7).trans (if_neg e11)))),HET2.trans ((if_neg e8).trans (if_neg e9))⟩);rw[hm]at z0;have hdo:=hear_do14;have hfn:=hear_fn0;go_wp2_with fail;go_ret;exact⟨_,rfl,by rw[HE.2];exact dh.nil _ _ _,by rw[HE.1];exact ArrP.nil HH bR⟩
theorem ara_stored (h:ArrB Z (jW c 2 hP hk) c a M w)(b:Int):
 Calls Tryz.prog 13 #[aI a.ab,ah b] w fun e w'=>∃v,e= .returned (.tuple #[v,ah (aVer c M.d b:Nat),ah (if 0≤b∧b<c.f 2 then 0 else 9)])∧Row 5 w' v (bytes (if 0≤b∧b<c.f 2 then(aSto c M b).2 else[]))∧af aA w w'∧∀k,aJ v k→w.heap.size≤k:=by
 have x17:ba w a.ab 17 (aI a.sb):=h.az.ag rfl
 by_cases hb:0≤b∧b<c.f 2
 ·have HR:=ae (read_at h hb);have HE:=aH (aVer c M.d b=(aSto c M b).1) (if_pos hb);rw[if_pos hb,if_pos hb,HE.out];clear h hb
  go_enter Tryz.func13,Tryz.ntmps13
  go_wp2_with (go_at_call 31;refine HR.mono ?_;rintro e W1 ⟨v,rfl,hr,ho,hf⟩)
  go_ret3
  exact⟨v,rfl,hr,ho,hf⟩
 ·have HR:=ae (zM (b:=b) (sh:=sr c) hb h.sto);have HE:=aH (aVer c M.d b=0) (if_neg hb);rw[if_neg hb,if_neg hb,HE.out];clear h hb
  go_enter Tryz.func13,Tryz.ntmps13
  go_wp2_with (go_at_call 31;refine HR.mono ?_;rintro e W1 ⟨rfl,rfl⟩)
  go_ret3
  exact⟨_,rfl,Row.kv _ _,af.ak _ _,fun k hk=>(bq hk).elim⟩
theorem ara_blocks (h:ArrB Z (jW c 2 hP hk) c a M w):
 Calls Tryz.prog 19 #[aI a.ab] w fun e w'=>∃v,e= .returned v∧aC 3 w' w.heap.size v ((jW c 2 hP hk).sp.all M.s)∧af aA w w':=by
 have Qc:ba w a.ab 18 (aI a.cb):=h.az.ag rfl;have HA:=ae (Gv h.cch);clear h
 go_enter Tryz.func19,Tryz.ntmps19
 go_wp2_with (go_at_call 37;refine HA.mono ?_;rintro e W1 ⟨v,rfl,hr,ho⟩);go_ret;exact⟨v,rfl,hr,ho⟩
theorem ara_down (h:ArrB Z (jW c 2 hP hk) c a M w):Calls Tryz.prog 17 #[aI a.ab] w fun e w'=>e= .returned (.bool M.down)∧w=w':=by
 have x19:ba w a.ab 19 (.bool M.down):=h.az.ag rfl;clear h
 go_enter Tryz.func17,Tryz.ntmps17
 go_wp2_with fail;go_ret;exact⟨rfl,rfl⟩
end
end Go.Proofs.YtpcfhbeakecihaaGreat

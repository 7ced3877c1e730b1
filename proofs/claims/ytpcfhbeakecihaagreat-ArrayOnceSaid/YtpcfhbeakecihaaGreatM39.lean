/- Lemmas. -/
import Derived.Test.YtpcfhbeakecihaaGreatM35
import Derived.Test.YtpcfhbeakecihaaGreatM37
import Derived.Test.YtpcfhbeakecihaaGreatM38
set_option linter.all false
set_option maxHeartbeats 20000000
set_option maxRecDepth 100000
namespace Go.Proofs.YtpcfhbeakecihaaGreat
open Go.ChangeShapes Go.RowKit Go.WideShapes
def mA:ec:=⟨fun i=>[8,0,0,0,0,1,0,0,0].getD i 0,false⟩
def mB:ec:=⟨fun i=>[12,0,0,0,0,1,0,0,0].getD i 0,false⟩
theorem vW:nW mA 0=true:=av
theorem yL (w:World):(Instr.index 80 (.agg #[.nilFunc,.nilFunc,.nilFunc,.nilFunc,.nilFunc,.nilFunc,.nilFunc,.nilFunc,.func (.func 33) #[] #[],.func (.func 34) #[] #[],.func (.func 35) #[] #[],.func (.func 36) #[] #[],.nilFunc,.nilFunc,.nilFunc]) (.int .i64 8)).run Tryz.prog w= .ok (.func (.func 33) #[] #[]) w:=by kernel_rfl
theorem yK (w:World):(binOp BinOp.eql 79 (.func (.func 33) #[] #[]) .nilFunc).run Tryz.prog w= .ok (.bool false) w:=by kernel_rfl
def yS (ab:Nat)(w:World)(e:Ending)(w':World):Prop:=
 ∃g q v,e= .returned (.slice (some ⟨g,0,none⟩) 1 q)∧(∀j u,(wL 1 v).toList[j]? =some u→ba w' g j u)∧b8 w' v [0]∧aF w' ab 20 1∧af aA w w'
section
variable {KO:aZ}{i:KO.ι}{w:World}{cb mb:Nat}{c:aN}{ri:Value}{aw:Nat}{s:KO.σ}{D:Int→Option gA}
theorem q7 {ab sb:Nat}{A:Option Addr}{n cp:Nat}{rd:Int}{lm:Value}{Q:Ending→World→Prop}(ha:Box w ab 77 (iG c (.slice A n cp) sb cb false rd lm))
 (hr:∀W,af aA w W→Calls Tryz.prog 33 #[.pointer (some ⟨ab,0,none⟩),.agg (bc mA (.slice none 0 0))] W fun e w'=>(∃v,e= .returned v)∧Q e w'):
 Calls Tryz.prog 14 #[.pointer (some ⟨ab,0,none⟩),.agg (bc mA (.slice none 0 0))] w Q:=by
 have HA:=ae ha;have wM:=ae hr;clear ha hr
 go_enter Tryz.func14,Tryz.ntmps14
 go_upto_region 1 with fail;have HM:=ae<|Box.fresh w 37 (bc mA (.slice none 0 0));have al:=(af.ak aA w).alloc (.cells (bc mA (.slice none 0 0)) 37);have HO:=ae al;have rz:=ae<|al.az HA id;change Code.wp _ _ _ _ (w.alloc (.cells (bc mA (.slice none 0 0)) 37));clear al;generalize w.alloc (.cells (bc mA (.slice none 0 0)) 37)=W1 at *;generalize w.heap.size=mb at *;have HR:=th mA none 0 0 W1;rw[vW]at HR;have HR:=ae HR;have z0:aF W1 mb 0 8:=HM.ag rfl;have z1:aF W1 mb 1 0:=HM.ag rfl;have z2:aF W1 mb 2 0:=HM.ag rfl;have z3:aF W1 mb 3 0:=HM.ag rfl;have z4:aF W1 mb 4 0:=HM.ag rfl;have z5:aF W1 mb 5 1:=HM.ag rfl;have z6:aF W1 mb 6 0:=HM.ag rfl;have z7:aF W1 mb 7 0:=HM.ag rfl;have z8:aF W1 mb 8 0:=HM.ag rfl;have z9:ba W1 mb 9 (.bool false):=HM.ag rfl;have MZ:ba W1 mb 10 (.slice none 0 0):=HM.ag rfl;have M4:ba W1 ab 19 (.bool false):=rz.ag rfl;go_upto_region 3 with(go_at_call 32;refine HR.mono ?_;rintro e W2 ⟨rfl,bd⟩);have pS:=ae<|bd.az HM id;have bR:=ae<|HO.trans bd;clear z0 z1 z2 z3 z4 z5 z6 z7 z8 z9 MZ M4 HR HM rz HO bd;have z0:aF W2 mb 0 8:=pS.ag rfl;have Iv:=ae<|wM W2 bR;have QJ:=yL;have QG:=yK;go_wp2_with (first|(refine pL (bc mA (.slice none 0 0)) pS Tryz.underlying37 ?_)|(go_at_call 33;refine Iv.mono ?_;rintro e W3 ⟨⟨v,rfl⟩,hq⟩));exact hq
theorem pC (w:World):Calls Tryz.prog 27 #[] w fun e w'=>e= .returned (.agg (aj lc (.slice none 0 0)))∧af aA w w':=by
 have HB:=ae<|Box.fresh w 25 #[.int .i64 0,.int .i64 0,.int .i64 0,.int .i64 0,.int .i64 0,.int .i64 0,.int .i64 0,.int .i64 0,.int .i64 0,.int .i64 0,.int .i64 0,.int .i64 0,.int .i64 0,.int .i64 0,.int .i64 0,.int .i64 0,.slice none 0 0];have HO:=aH (af aA w (w.alloc (.cells #[.int .i64 0,.int .i64 0,.int .i64 0,.int .i64 0,.int .i64 0,.int .i64 0,.int .i64 0,.int .i64 0,.int .i64 0,.int .i64 0,.int .i64 0,.int .i64 0,.int .i64 0,.int .i64 0,.int .i64 0,.int .i64 0,.slice none 0 0] 25))) ((af.ak aA w).alloc _)
 go_enter Tryz.func27,Tryz.ntmps27
 go_upto_region 1 with fail;generalize w.alloc (.cells #[.int .i64 0,.int .i64 0,.int .i64 0,.int .i64 0,.int .i64 0,.int .i64 0,.int .i64 0,.int .i64 0,.int .i64 0,.int .i64 0,.int .i64 0,.int .i64 0,.int .i64 0,.int .i64 0,.int .i64 0,.int .i64 0,.slice none 0 0] 25)=W at *;go_wp2_with (refine pT (aj lc (.slice none 0 0)) HB (yH lc none 0 0) ?_)
 (try simp only[Exit.inBlock,Exit.then])
 refine bodyPost_ret (results_cell_row rfl _ _ w.heap.size _ (aj lc (.slice none 0 0)) (0,0) _ rfl (HB.aK _) Tryz.underlying25 rfl bJ) rfl ?_;exact⟨rfl,HO.aK (.inr (dT _)) _⟩
theorem tJ {ab:Nat}{rd:Int}(w:World)(h:aF w ab 20 rd):Calls Tryz.prog 26 #[.pointer (some ⟨ab,0,none⟩)] w fun e w'=>e= .returned (.int .i64 rd)∧w=w':=by
 go_enter Tryz.func26,Tryz.ntmps26
 go_wp2_with fail;go_ret;exact⟨rfl,rfl⟩
theorem Cw:eH 1 []=(0,[0]):=rfl
theorem zK (w:World):Calls Tryz.prog 7 #[] w fun e w'=>e= .returned (.bool true)∧af aA w w':=by
 go_enter Tryz.func7,Tryz.ntmps7
 go_wp2_with fail;refine(pC w).mono ?_;rintro e W1 ⟨rfl,a8⟩;have bw:=ae a8;clear a8;go_wp2_with fail;refine(xN W1).mono ?_;rintro e W2 ⟨db,lb,rfl,He,NW,dF,bd⟩;have HN:=ae<|yJ (A:=none) (n:=0) (cp:=0) (rW 2 av) lU W2 ⟨rfl,dT _,eK _,fun i hi=>absurd hi (Nat.not_lt_zero _)⟩ He av av (fun i x hx=>by cases hx) rfl;have bR:=ae<|bw.trans bd;clear He NW dF bd bw;go_wp2_with fail;refine HN.mono ?_;rintro e W3 ⟨i,ab,cb,mb,sb,ri,lm,rfl,Hv,Fw,wZ,wH,CH,Oh,bQ⟩;have Ay:=ae Hv;have Dn:=aH (w.heap.size≤ab) (by have:=bR.size;omega);have wM:=ae<|fun W (ho:af aA W3 W)=>lL (m:=mA) (b:=1) (size:=1) rfl av rfl av rfl av (ho.az Hv id) (Fw.keep ho) (fun k hk=>by have:=wH k hk;omega) (wZ.keep ho) (by rw[(lB 1).nil];simp);have b7:=ae<|bR.trans bQ;clear Hv Fw wZ wH CH Oh bQ HN bR;have HH:=ae (q7 (Q:=yS ab w) Ay (fun W ho=>(wM W ho).mono fun e w' h=>by
  obtain⟨g,q,v,rfl,h2,h3,h4,h5,h6⟩:=h;exact⟨⟨_,rfl⟩,g,q,v,rfl,h2,by rw[show(1:Nat)+1=2 from rfl]at h3;exact h3,h4.ag rfl,(b7.trans ho).aE h5 fun k hk=>.inr (by have h7:k=ab:=hk;have:=Dn.out;omega)⟩))
 go_upto_region 5 with(go_at_call 14;refine HH.mono ?_;rintro e W4 ⟨g,q,v,rfl,rp,E7,zc,gB⟩);obtain⟨B,cv,CI,KG,hl0,J5⟩:=E7;have B4:=aH (b8 W4 v [0]) (⟨B,cv,CI,KG,hl0,J5⟩);have jb:=ae gB;clear KG hl0 J5 gB wM HH Ay b7;subst CI;have k0:aF W4 g 0 12:=rp 0 _ rfl;have k1:aF W4 g 1 0:=rp 1 _ rfl;have k2:aF W4 g 2 0:=rp 2 _ rfl;have k3:aF W4 g 3 0:=rp 3 _ rfl;have k4:aF W4 g 4 0:=rp 4 _ rfl;have k5:aF W4 g 5 1:=rp 5 _ rfl;have k6:aF W4 g 6 0:=rp 6 _ rfl;have k7:aF W4 g 7 0:=rp 7 _ rfl;have k8:aF W4 g 8 0:=rp 8 _ rfl;have k9:ba W4 g 9 (.bool false):=rp 9 _ rfl;have Ng:ba W4 g 10 (.slice B ([0]:List Int).length cv):=rp 10 _ rfl;clear rp;have al:=(af.ak aA W4).alloc (.cells #[.int .u8 0] 5);have HZ:=aH (b8 (W4.alloc (.cells #[.int .u8 0] 5)) (.slice (some ⟨W4.heap.size,0,none⟩) 1 1) [0]) (⟨_,1,rfl,dT _,av,hV W4 (.int .u8 0) 5⟩);have HS:=ae<|tk mB mB B (some ⟨W4.heap.size,0,none⟩) 1 cv 1 1 [0] [0] (W4.alloc (.cells #[.int .u8 0] 5)) (B4.ao al fun _ _=>id) HZ;rw[show eR mB mB [0] [0]=true by decide]at HS;have xl:=ae al;have Aq:=ae zc;clear al zc;rw[show([0]:List Int).length=1 from rfl]at Ng;go_wp2_with (first|(go_at_call 28;refine HS.mono ?_;rintro e W5 ⟨rfl,eD⟩;have r5:aF W5 ab 20 1:=eD.cell (xl.cell Aq id) id)|(go_at_call 26;refine(tJ _ r5).mono ?_;rintro e W6 ⟨rfl,rfl⟩));go_ret;exact⟨rfl,(jb.trans xl).trans eD⟩
theorem Cr (m:ec)(A:Option Addr)(n c:Nat)(w:World):Calls Tryz.prog 14 #[.pointer none,.agg (bc m (.slice A n c))] w fun e w'=>e= .returned (.slice none 0 0)∧af aA w w':=by
 have HO:=ae<|(af.ak aA w).alloc (.cells (bc m (.slice A n c)) 37)
 go_enter Tryz.func14,Tryz.ntmps14
 go_upto_region 1 with fail;generalize w.alloc (.cells (bc m (.slice A n c)) 37)=W1 at *;go_wp2_with fail;go_ret;exact⟨rfl,HO⟩
theorem zR (b:Int)(w:World):Calls Tryz.prog 13 #[.pointer none,.int .i64 b] w fun e w'=>e= .returned (.tuple #[.slice none 0 0,.int .i64 0,.int .i64 7])∧w=w':=by
 go_enter Tryz.func13,Tryz.ntmps13
 go_wp2_with fail
 go_ret3
 exact⟨rfl,rfl⟩
theorem zS (w:World):Calls Tryz.prog 19 #[.pointer none] w fun e w'=>e= .returned (.slice none 0 0)∧w=w':=by
 go_enter Tryz.func19,Tryz.ntmps19
 go_wp2_with fail;go_ret;exact⟨rfl,rfl⟩
theorem BC (w:World):Calls Tryz.prog 26 #[.pointer none] w fun e w'=>e= .returned (.int .i64 0)∧w=w':=by
 go_enter Tryz.func26,Tryz.ntmps26
 go_wp2_with fail;go_ret;exact⟨rfl,rfl⟩
theorem Cs (w:World):Calls Tryz.prog 17 #[.pointer none] w fun e w'=>e= .returned (.bool true)∧w=w':=by
 go_enter Tryz.func17,Tryz.ntmps17
 go_wp2_with fail;go_ret;exact⟨rfl,rfl⟩
theorem td (sh:Nat→Int)(w:World):Calls Tryz.prog 30 #[.pointer none,.agg (dY sh)] w fun e w'=>e= .returned (.tuple #[.pointer none,.int .i64 7])∧af aA w w':=by
 have HO:=ae<|(af.ak aA w).alloc (.cells (dY sh) 74)
 go_enter Tryz.func30,Tryz.ntmps30
 go_upto_region 1 with fail;generalize w.alloc (.cells (dY sh) 74)=W1 at *;go_wp2_with fail;go_ret2;exact⟨rfl,HO⟩
theorem zV (w:World):Calls Tryz.prog 10 #[.agg (aj lc (.slice none 0 0)),.pointer none] w fun e w'=>e= .returned (.tuple #[.pointer none,.int .i64 7])∧af aA w w':=by
 have nP:=ae<|fun w=>r8 (A:=none) (n:=0) (cp:=0) (rW 2 av) lU (by decide:1≤3) (by decide:3≤3) w ⟨rfl,dT _,eK _,fun i hi=>absurd hi (Nat.not_lt_zero _)⟩
 go_enter Tryz.func10,Tryz.ntmps10
 go_upto_region 1 with fail;have ku:=(af.ak aA w).alloc (.cells (aj lc (.slice none 0 0)) 25);have cQ:=ae<|Box.fresh w 25 (aj lc (.slice none 0 0));have bw:=ae ku;have HR:=ae<|nP (w.alloc (.cells (aj lc (.slice none 0 0)) 25));change Code.wp _ _ _ _ (w.alloc (.cells (aj lc (.slice none 0 0)) 25));clear ku;generalize w.alloc (.cells (aj lc (.slice none 0 0)) 25)=W1 at *;generalize w.heap.size=bb at *;go_upto_region 2 with(first|(refine pL (aj lc (.slice none 0 0)) cQ Tryz.underlying25 ?_)|(go_at_call 29;refine HR.mono ?_;rintro e W2 ⟨i,cb,mb,ri,rfl,uf,FC,xv,AF,xu,bd⟩));have eC:=ae<|bd.az cQ id;have bR:=ae<|bw.trans bd;clear bd cQ bw HR uf FC xv AF xu nP;have x0:aF W2 bb 0 (lc.f 0):=eC.ag (aB lc _ av);have x1:aF W2 bb 1 (lc.f 1):=eC.ag (aB lc _ av);have x2:aF W2 bb 2 (lc.f 2):=eC.ag (aB lc _ av);have x3:aF W2 bb 3 (lc.f 3):=eC.ag (aB lc _ av);go_wp2_with (go_at_call 30;refine(td (sr lc) _).mono ?_;rintro e W3 ⟨rfl,bQ⟩);go_ret2;exact⟨rfl,bR.trans bQ⟩
end
end Go.Proofs.YtpcfhbeakecihaaGreat

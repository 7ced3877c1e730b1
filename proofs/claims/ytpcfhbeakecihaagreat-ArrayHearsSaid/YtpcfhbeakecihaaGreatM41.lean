/- Lemmas. -/
import Derived.Test.YtpcfhbeakecihaaGreatM23
import Derived.Test.YtpcfhbeakecihaaGreatM39
set_option linter.all false
set_option maxHeartbeats 20000000
set_option maxRecDepth 100000
namespace Go.Proofs.YtpcfhbeakecihaaGreat
open Go.ChangeShapes Go.RowKit Go.WideShapes
theorem yC (sh:Nat→Int)(db:Nat):Tryz.prog.built 108 [(0,.agg (eu sh)),(1,.pointer (some ⟨db,0,none⟩))]=some (eK sh db):=by kernel_rfl
theorem lZ (size:Nat)(b:List Int):(bD size b).2.length=size:=by
 unfold bD
 split
 ·rename_i h
  have h:=h.1;unfold kM at h ⊢
  split at h
  ·split at h
   ·simp only[Bool.and_eq_true,beq_iff_eq]at h;rw[if_pos (by assumption)]
    rename_i hq
    first|(show List.length _=size;simp only;omega)|(rw[hq];simp only;omega)
   ·cases h
  ·cases h
 ·simp
section
variable {w:World}{sb db lb:Nat}{V:Nat→Value}{sh:Nat→Int}{d:bC}
theorem cL{P:Prop}(h:P:=by
 first|exact A0|exact uF|exact aC|exact⟨Fi.drew,Ki.keep ((af.ai au _).drew),bc.drew⟩):P:=h
theorem G8 (hp:Fc sh)(h:eD w db lb V d)(f0: -1≤d.cA)(f1:d.cA≤9223372036854775807)(hb:∀i,jX (d.sec i))(he:d.sec 0= []):
 Calls Tryz.prog 30 #[.pointer (some ⟨db,0,none⟩),.agg (eu sh)] w fun e w'=>∃sb,e= .returned (.tuple #[.pointer (some ⟨sb,0,none⟩),.int .i64 0])∧bX w' sb db lb V sh d∧w.heap.size≤sb∧af au w w':=by
 have HD:=ae h;have HP:=ae hp;have HF:=aq ((-1≤d.cA∧d.cA≤9223372036854775807)∧(∀i,jX (d.sec i))∧d.sec 0= []) (⟨⟨f0,f1⟩,hb,he⟩);have hm:=hp.mul (c:=0) (Int.le_refl _) (by have:=hp.c0;omega);have NL:1+sh 0+sh 2*sh 3≤64:=by have:=hp.b1;omega
 have HR:=ae<|fun w=>yc hp w;have Sq:=ae<|fun w=>ug hp w;clear h hp f0 f1 hb he hm
 go_enter Tryz.func30,Tryz.ntmps30
 go_upto_region 3 with fail;have l8:=(af.ai au w).alloc (.cells (eu sh) 74);have Fi:=ae<|Box.fresh w 74 (eu sh);have bc:=ae l8;have Ki:=ae<|HD.keep l8;change Code.wp _ _ _ _ (w.alloc (.cells (eu sh) 74));clear l8;generalize w.alloc (.cells (eu sh) 74)=W1 at *;obtain⟨pb,E5⟩:∃pb,pb=w.heap.size:=⟨_,rfl⟩;rw[←E5]at Fi ⊢;have NU:=ae E5;clear E5;refine gg (fun w':World=>Box w' pb 74 (eu sh)∧eD w' db lb V d∧af au w w') 10 ?_ ?_
 ·exact cL
 intro aC;refine aB (i:=0) (v:=.agg (eu sh)) aS rfl aS (fun _ _ _ h=>h) (yieldsIf_load_mid (by rfl) 74 _ rfl pb 0 rfl (eu sh).toList _ (fun w hw j v hj=>by rw[Nat.zero_add];exact hw.1.ag (by rw[←Array.getElem?_toList];exact hj)) Tryz.underlying74 rfl aS) (by assumption) ?_;refine dU ?_;refine cX 1 fun K hK=>?_
 go_simp;refine(HR _).mono ?_;rintro e W3 ⟨rfl,bV⟩;have uF:Box W3 pb 74 (eu sh)∧eD W3 db lb V d∧af au w W3:=⟨bV.ak aC.1 id,aC.2.1.keep bV,aC.2.2.trans bV⟩;clear bV;refine dy hK ?_ fun aC=>?_
 ·exact cL
 clear hK;refine bE [2,3,4] ?_;refine aB (i:=6) (v:=.agg (eu sh)) aS rfl aS (fun _ _ _ h=>h) (yieldsIf_load_mid (by rfl) 74 _ rfl pb 0 rfl (eu sh).toList _ (fun w hw j v hj=>by rw[Nat.zero_add];exact hw.1.ag (by rw[←Array.getElem?_toList];exact hj)) Tryz.underlying74 rfl aS) (by assumption) ?_;refine dU ?_;refine cX 5 fun K hK=>?_
 go_simp;refine(FG aC.2.1).mono ?_;rintro e W4 ⟨rfl,rfl⟩;refine dy hK ?_ fun aC=>?_
 ·exact cL
 clear hK;refine cX 7 fun K hK=>?_
 go_simp;refine(Sq _).mono ?_;rintro e W5 ⟨rfl,fz⟩;have A0:Box W5 pb 74 (eu sh)∧eD W5 db lb V d∧af au w W5:=⟨fz.ak aC.1 id,aC.2.1.keep fz,aC.2.2.trans fz⟩;clear fz;refine dy hK ?_ fun aC=>?_
 ·exact cL
 clear hK;refine bE [8,9] ?_;refine dE ?_;have HS:=ae aC;clear aC uF A0;go_upto_region 6 with(first|(refine wpList_load_row rfl 74 _ rfl pb rfl 74 (eu sh) (0,0) _ HS.1 Tryz.underlying74 rfl aS ?_)|(refine du rfl _ _ rfl [(0,.agg (eu sh)),(1,.pointer (some ⟨db,0,none⟩))] _ (by simp[Act.eval]) (yC sh db) ?_));have wR:=(af.ai au W5).alloc (.cells (eK sh db) 108);have xb:=ae<|Box.fresh W5 108 (eK sh db);have iu:=ae<|HS.2.2.trans wR;have XC:=ae<|HS.2.1.keep wR;have Vr:=aq (∀k,eE db lb V k→k<W5.heap.size) (fun k hk=>HS.2.1.lt hk);have HZ6:=aq (w.heap.size≤W5.heap.size) (HS.2.2.size);change Code.wp _ _ _ _ (W5.alloc (.cells (eK sh db) 108));clear wR HS;generalize W5.alloc (.cells (eK sh db) 108)=W6 at *;generalize W5.heap.size=sb at *;have je:bX W6 sb db lb V sh d:=
  {ak:=xb.out,lH:=XC.out,off:=fun hk=>by have:=Vr.out _ hk;omega,sd:=HP.out,f0:=HF.1.1,f1:=HF.1.2,tX:=HF.2.1}
 have bQ:=ae je;have HJ:=ae<|zX HF.2.2 je;clear je xb XC NL;unfold uo at HJ;go_wp2_with (go_at_call 57;refine HJ.mono ?_;rintro e W7 ⟨rfl,l4⟩);go_ret2;exact⟨sb,rfl,(bQ.keep l4).keep ((af.ai au W7).alloc _),HZ6,(iu.trans l4).alloc _⟩
theorem BR {b size:Nat}(hb:(b:Int)<sh 0)(hsz:sh 1=size)(h:bX w sb db lb V sh d):
 Calls Tryz.prog 31 #[.pointer (some ⟨sb,0,none⟩),.int .i64 b] w fun e w'=>∃v,e= .returned (.tuple #[v,.int .i64 (bD size (d.sec (1+b))).1,.int .i64 0])∧Row 5 w' v (bytes (bD size (d.sec (1+b))).2)∧af au w w'∧∀k,aJ v k→w.heap.size≤k:=by
 have HB:=ae<|xY hb hsz h;have HL:=ae<|lZ size (d.sec (1+b));have x0:=(fj h).1;generalize(bD size (d.sec (1+b))).1=n1 at *;generalize(bD size (d.sec (1+b))).2=t1 at *;have Ke:=aq (size≤16) (by have:=h.sd.s1;omega);generalize sh 0=s0 at *;have yU:(0:Int)≤b:=aj;clear h hsz
 go_enter Tryz.func31,Tryz.ntmps31
 go_upto_region 6 with(go_at_call 59;refine HB.mono ?_;rintro e W1 ⟨v,rfl,Wa,aK,E8⟩);have Q5:=ae<|gX v t1 W1 (Wa.sa (by have h1:=HL.out;have h2:=Ke.out;omega));have bc:=ae aK;clear Wa aK E8 HB;go_wp2_with (go_at_call 60;refine Q5.mono ?_;rintro e W2 ⟨u,rfl,kJ,bq,AX⟩)
 go_ret3
 exact⟨u,rfl,kJ,bc.trans bq,fun k hk=>Nat.le_trans bc.size (AX k hk)⟩
theorem qh {b:Int}(hb:¬(0≤b∧b<sh 0))(h:bX w sb db lb V sh d):
 Calls Tryz.prog 31 #[.pointer (some ⟨sb,0,none⟩),.int .i64 b] w fun e w'=>e= .returned (.tuple #[.slice none 0 0,.int .i64 0,.int .i64 9])∧w=w':=by
 have x0:=(fj h).1;generalize sh 0=s0 at *;clear h
 by_cases h0:0≤b
 ·have h1:¬b<s0:=fun h=>hb ⟨h0,h⟩
  have h2:¬b<0:=aj;have h3:s0≤b:=aj;clear hb
  go_enter Tryz.func31,Tryz.ntmps31
  go_wp2_with fail
  go_ret3
  exact⟨rfl,rfl⟩
 ·have h2:b<0:=aj;clear hb
  go_enter Tryz.func31,Tryz.ntmps31
  go_wp2_with fail
  go_ret3
  exact⟨rfl,rfl⟩
end
def br (c:aQ):Nat→Int:=fun i=>if i=0 then c.f 2 else if i=1 then c.f 3 else if i=2 then c.f 0 else c.f 1
theorem uL {c:aQ}(h:dp c):Fc (br c):=by
 have h0:=h.p0;have h1:=h.p1;have h2:=h.p2;have h3:=h.p3;exact⟨h2.1,h2.2,h3.1,h3.2,h0.1,h0.2,h1.1,h1.2⟩
def lL (c:aQ)(hv:Value)(sb cb:Nat)(down:Bool)(reads:Int)(lm:Value):Array Value:=ao c hv ++ #[.pointer (some ⟨sb,0,none⟩),.pointer (some ⟨cb,0,none⟩),.bool down,.int .i64 reads,lm]
theorem xR (c:aQ)(hv:Value)(sb cb:Nat)(down:Bool)(reads:Int)(lm:Value){i:Nat}(hi:i<16):(lL c hv sb cb down reads lm)[i]? =some (.int .i64 (c.f i)):=by
 unfold lL;exact gB
theorem yD (c:aQ)(A:Option Addr)(n cp sb cb mb:Nat):Tryz.prog.built 77 [(0,.agg (ao c (.slice A n cp))),(1,.pointer (some ⟨sb,0,none⟩)),(2,.pointer (some ⟨cb,0,none⟩)),(5,.map (some mb))]=some (lL c (.slice A n cp) sb cb false 0 (.map (some mb))):=by kernel_rfl
def Ud (K:bj)(c:aQ)(A:Option Addr)(n cp db lb:Nat)(V:Nat→Value)(d:bC)(w:World)(e:Ending)(w':World):Prop:=
 ∃i ab cb mb sb Aw lm,e= .returned (.tuple #[.pointer (some ⟨ab,0,none⟩),.int .i64 0])∧Box w' ab 77 (lL c (.slice A n cp) sb cb false 0 lm)∧bH K i w' cb mb c Aw 3 K.s0 (fun _=>none)∧bX w' sb db lb V (br c) d∧
  (∀k,mr K i cb mb c Aw (fun _=>none) k→w.heap.size≤k∧k<sb)∧w.heap.size≤sb∧sb<ab∧af au w w'
section
theorem Ql {KO:bj}{c:aQ}(hK:KO.Made c 3)(hP:dp c){A:Option Addr}{n cp:Nat}{db lb:Nat}{V:Nat→Value}{d:bC}(w:World)(bL:aX w A n cp c.h)
 (h:eD w db lb V d) (f0: -1≤d.cA) (f1:d.cA≤9223372036854775807) (hb:∀i,jX (d.sec i)) (he:d.sec 0= []):
 Calls Tryz.prog 10 #[.agg (ao c (.slice A n cp)),.pointer (some ⟨db,0,none⟩)] w (Ud KO c A n cp db lb V d w):=by
 have HD:=ae h;have HP:=ae hP;have HF:=aq ((-1≤d.cA∧d.cA≤9223372036854775807)∧(∀i,jX (d.sec i))∧d.sec 0= []) (⟨⟨f0,f1⟩,hb,he⟩);have HI:=ae bL;have uv:=ae<|fun w bL=>zQ (A:=A) (n:=n) (cp:=cp) hK hP (by decide:1≤3) (by decide:3≤3) w bL;clear h f0 f1 hb he bL hP
 go_enter Tryz.func10,Tryz.ntmps10
 go_upto_region 1 with fail;have l8:=(af.ai au w).alloc (.cells (ao c (.slice A n cp)) 25);have b8:=ae<|Box.fresh w 25 (ao c (.slice A n cp));have bc:=ae l8;have HR:=ae<|uv _ (HI.keep l8);change Code.wp _ _ _ _ (w.alloc (.cells (ao c (.slice A n cp)) 25));clear l8;generalize w.alloc (.cells (ao c (.slice A n cp)) 25)=W1 at *;generalize tZ:w.heap.size=bb at *;have qx:=ae tZ;clear tZ;go_upto_region 2 with(first|(refine iy (ao c (.slice A n cp)) b8 Tryz.underlying25 ?_)|(go_at_call 29;refine HR.mono ?_;rintro e W2 ⟨i,cb,mb,Aw,rfl,qZ,Sd,GK,Kw,DA,bq⟩));have dG:=ae<|bq.ak b8 id;have bu:=ae<|bc.trans bq;have Nj:=ae qZ;have Nb:=aq (∀k,mr KO i cb mb c Aw (fun _=>none) k→w.heap.size≤k∧k<W2.heap.size) (by
  have hsz:=bc.size;intro k hk;have h3:=qZ.Rr hk;rcases hk with hk|hk|hk|⟨_,_,_,hk,_⟩|hk
  ·have:=Sd k hk;exact⟨aj,h3⟩
  ·exact⟨aj,h3⟩
  ·exact⟨aj,h3⟩
  ·cases hk
  ·have:=DA hk.1 k hk.2;exact⟨aj,h3⟩)
 have Q4:=ae<|(HD.keep bc).keep bq;clear bq b8 bc HR qZ Sd GK Kw DA uv;have x0:aF W2 bb 0 (c.f 0):=dG.ag (aL c _ aE);have x1:aF W2 bb 1 (c.f 1):=dG.ag (aL c _ aE);have x2:aF W2 bb 2 (c.f 2):=dG.ag (aL c _ aE);have x3:aF W2 bb 3 (c.f 3):=dG.ag (aL c _ aE);have Xp:=ae<|G8 (uL HP) Q4 HF.1.1 HF.1.2 HF.2.1 HF.2.2;go_upto_region 5 with(go_at_call 30;refine Xp.mono ?_;rintro e W3 ⟨sb,rfl,Gd,Kr,bV⟩);have hG:=ae<|bV.ak dG id;have JP:=ae<|Nj.keep bV;have Dq:=ae Gd;have bI:=ae<|bu.trans bV;have J9:=aq (W2.heap.size≤sb∧sb<W3.heap.size) (⟨Kr,Gd.ak.lt⟩);clear bV Gd Kr Xp x0 x1 x2 x3 dG Nj;have tc:= @run_makeMap Tryz.prog;go_upto_region 7 with fail;go_wp2_with (first|(refine iy (ao c (.slice A n cp)) hG Tryz.underlying25 ?_)|(refine du rfl _ _ rfl [(0,.agg (ao c (.slice A n cp))),(1,.pointer (some ⟨sb,0,none⟩)),(2,.pointer (some ⟨cb,0,none⟩)),(5,.map (some W3.heap.size))] _ (by simp[Act.eval]) (yD c A n cp sb cb W3.heap.size) ?_));go_ret2;have Dp:=(af.ai au W3).alloc (.map #[] 0);have py:=Box.fresh (W3.alloc (.map #[] 0)) 77 (lL c (.slice A n cp) sb cb false 0 (.map (some W3.heap.size)));have wR:=(af.ai au (W3.alloc (.map #[] 0))).alloc (.cells (lL c (.slice A n cp) sb cb false 0 (.map (some W3.heap.size))) 77);have hz:(W3.alloc (.map #[] 0)).heap.size=W3.heap.size+1:=by simp
 rw[hz]at py;refine⟨i,W3.heap.size+1,cb,mb,sb,Aw,.map (some W3.heap.size),?_,py,(JP.keep Dp).keep wR,(Dq.keep Dp).keep wR,fun k hk=>?_,?_,?_,(bI.trans Dp).trans wR⟩
 ·simp
 ·have h1:=Nb.out k hk;have h2:=J9.out;exact⟨h1.1,aj⟩
 ·have h1:=bu.size;have h2:=J9.out;omega
 ·have h2:=J9.out;omega
end
end Go.Proofs.YtpcfhbeakecihaaGreat

/- Lemmas. -/
import Derived.Test.YtpcfhbeakecihaaGreatM12
import Derived.Test.YtpcfhbeakecihaaGreatM41
import Derived.Test.YtpcfhbeakecihaaGreatM42
set_option linter.all false
set_option maxHeartbeats 20000000
set_option maxRecDepth 100000
namespace Go.Proofs.YtpcfhbeakecihaaGreat
open Go.ChangeShapes Go.RowKit Go.WideShapes
theorem G0 {m:Nat}{b:List Int}{p:Nat}{t:List Int}{q:Nat}(h:fT m b p= .ok (t,q)):∃i n,t=(b.drop i).take n:=by
 unfold fT ix at h
 cases hn:ji b p with
 |error x=>rw[hn]at h;cases h
 |ok y=>
  obtain⟨n,i⟩:=y;rw[hn]at h;simp only at h
  split at h
  ·cases h
  ·unfold vt at h
   split at h
   ·cases h
   ·cases h
    exact⟨_,_,rfl⟩
theorem BU {m:Nat}{b:List Int}{p:Nat}{ok:Bool}(hb:jX b):jX (kM m b p ok).1:=by
 unfold kM
 split
 ·cases ht:fT m b p with
  |error x=>exact fun x hx=>by cases hx
  |ok y=>
   obtain⟨t,q⟩:=y;obtain⟨i,n,e⟩:=G0 ht;intro x hx;have hx:x∈t:=hx;rw[e]at hx;exact hb x (List.mem_of_mem_drop (List.mem_of_mem_take hx))
 ·exact fun x hx=>by cases hx
theorem LM {m:Nat}{b:List Int}{p:Nat}{ok:Bool}(h:(kM m b p ok).2=true):(kM m b p ok).1.length=m:=by
 unfold kM at h ⊢
 split at h
 ·rename_i ho
  rw[if_pos ho]
  cases ht:fT m b p with
  |error x=>rw[ht]at h;cases h
  |ok y=>
   obtain⟨t,q⟩:=y;rw[ht]at h;simp only[Bool.and_eq_true,beq_iff_eq]at h
   show t.length=m
   omega
 ·cases h
section
variable {w:World}{sb db lb:Nat}{V:Nat→Value}{sh:Nat→Int}{d:bC}
theorem LA {size:Nat}(hp:Fc sh)(hsz:sh 1=size)(h:eD w db lb V d)(f0:d.down=false)(f1:d.cA= -1)(hb:∀i,jX (d.sec i)):
 Calls Tryz.prog 30 #[.pointer (some ⟨db,0,none⟩),.agg (eu sh)] w fun e w'=>∃sb V',e= .returned (.tuple #[.pointer (some ⟨sb,0,none⟩),.int .i64 0])∧bX w' sb db lb V' sh (mn sh size d)∧w.heap.size≤sb∧(∀k,eE db lb V' k→eE db lb V k∨w.heap.size≤k)∧af (fun k=>k=db∨k=lb) w w':=by
 have HD:=ae h;have HP:=ae hp;have HF:=aq ((d.down=false∧d.cA= -1)∧(∀i,jX (d.sec i))∧sh 1=size) (⟨⟨f0,f1⟩,hb,hsz⟩);have hm:=hp.mul (c:=0) (Int.le_refl _) (by have:=hp.c0;omega);have NL:1+sh 0+sh 2*sh 3≤64:=by have:=hp.b1;omega
 have HR:=ae<|fun w=>yc hp w;have Sq:=ae<|fun w=>ug hp w;clear h hp f0 f1 hb hsz hm
 go_enter Tryz.func30,Tryz.ntmps30
 go_upto_region 3 with fail;have l8:=(af.ai au w).alloc (.cells (eu sh) 74);have Fi:=ae<|Box.fresh w 74 (eu sh);have bc:=ae l8;have Ki:=ae<|HD.keep l8;change Code.wp _ _ _ _ (w.alloc (.cells (eu sh) 74));clear l8;generalize w.alloc (.cells (eu sh) 74)=W1 at *;obtain⟨pb,E5⟩:∃pb,pb=w.heap.size:=⟨_,rfl⟩;rw[←E5]at Fi ⊢;have NU:=ae E5;clear E5;refine gg (fun w':World=>Box w' pb 74 (eu sh)∧eD w' db lb V d∧af au w w') 10 ?_ ?_
 ·exact cL
 intro aC;refine aB (i:=0) (v:=.agg (eu sh)) aS rfl aS (fun _ _ _ h=>h) (yieldsIf_load_mid (by rfl) 74 _ rfl pb 0 rfl (eu sh).toList _ (fun w hw j v hj=>by rw[Nat.zero_add];exact hw.1.ag (by rw[←Array.getElem?_toList];exact hj)) Tryz.underlying74 rfl aS) (by assumption) ?_;refine dU ?_;refine cX 1 fun K hK=>?_
 go_simp;refine(HR _).mono ?_;rintro e W3 ⟨rfl,bV⟩;have uF:Box W3 pb 74 (eu sh)∧eD W3 db lb V d∧af au w W3:=⟨bV.ak aC.1 id,aC.2.1.keep bV,aC.2.2.trans bV⟩;clear bV;refine dy hK ?_ fun aC=>?_
 ·exact cL
 clear hK;refine bE [2,3,4] ?_;refine aB (i:=6) (v:=.agg (eu sh)) aS rfl aS (fun _ _ _ h=>h) (yieldsIf_load_mid (by rfl) 74 _ rfl pb 0 rfl (eu sh).toList _ (fun w hw j v hj=>by rw[Nat.zero_add];exact hw.1.ag (by rw[←Array.getElem?_toList];exact hj)) Tryz.underlying74 rfl aS) (by assumption) ?_;refine dU ?_;refine cX 5 fun K hK=>?_
 go_simp;refine(FG aC.2.1).mono ?_;rintro e W4 ⟨rfl,rfl⟩;refine dy hK ?_ fun aC=>?_
 ·exact cL
 clear hK;refine cX 7 fun K hK=>?_
 go_simp;refine(Sq _).mono ?_;rintro e W5 ⟨rfl,fz⟩;have A0:Box W5 pb 74 (eu sh)∧eD W5 db lb V d∧af au w W5:=⟨fz.ak aC.1 id,aC.2.1.keep fz,aC.2.2.trans fz⟩;clear fz;refine dy hK ?_ fun aC=>?_
 ·exact cL
 clear hK;refine bE [8,9] ?_;refine dE ?_;have HS:=ae aC;clear aC uF A0;go_upto_region 6 with(first|(refine wpList_load_row rfl 74 _ rfl pb rfl 74 (eu sh) (0,0) _ HS.1 Tryz.underlying74 rfl aS ?_)|(refine du rfl _ _ rfl [(0,.agg (eu sh)),(1,.pointer (some ⟨db,0,none⟩))] _ (by simp[Act.eval]) (yC sh db) ?_));have wR:=(af.ai au W5).alloc (.cells (eK sh db) 108);have xb:=ae<|Box.fresh W5 108 (eK sh db);have iu:=ae<|HS.2.2.trans wR;have XC:=ae<|HS.2.1.keep wR;have Vr:=aq (∀k,eE db lb V k→k<W5.heap.size) (fun k hk=>HS.2.1.lt hk);have HZ6:=aq (w.heap.size≤W5.heap.size) (HS.2.2.size);change Code.wp _ _ _ _ (W5.alloc (.cells (eK sh db) 108));clear wR HS;generalize W5.alloc (.cells (eK sh db) 108)=W6 at *;generalize W5.heap.size=sb at *;have je:bX W6 sb db lb V sh d:=
  {ak:=xb.out,lH:=XC.out,off:=fun hk=>by have:=Vr.out _ hk;omega,sd:=HP.out,f0:=by rw[HF.1.2];decide,f1:=by rw[HF.1.2];decide,tX:=HF.2.1}
 have bQ:=ae je;have HJ:=ae<|Cw HF.2.2 je;clear je xb XC NL;unfold JnP at HJ;have Vr:=aq (w.heap.size≤sb) (HZ6);have acP:=ae bQ.ak.lt;go_upto_region 7 with(first|(go_at_call 57;refine HJ.mono ?_;rintro e W7 ⟨tv,rfl,hr7,l4,U4⟩;obtain⟨At,ct,et,_,_⟩:=hr7.shape;subst et;rw[b7]at hr7 U4;have w8:=ae hr7;have pz:=ae l4;have N3:=ae U4;clear hr7 l4 U4)|(refine wpList_store_row rfl 110 _ _ rfl W7.heap.size (bP (Ar (d.sec 0)) (.slice At (Au size (d.sec 0)).1.length ct)) rfl rfl 110 #[.int .i64 0,.int .i64 0,.int .i64 0,.int .i64 0,.int .i64 0,.slice none 0 0] (Box.fresh W7 _ _) aS rfl (by simp[bP,Value.oneCell']) ?_));clear HJ;have al8:=(af.ai au W7).alloc (.cells #[.int .i64 0,.int .i64 0,.int .i64 0,.int .i64 0,.int .i64 0,.slice none 0 0] 110);have hb8:=(Box.fresh W7 110 #[.int .i64 0,.int .i64 0,.int .i64 0,.int .i64 0,.int .i64 0,.slice none 0 0]).aw (bP (Ar (d.sec 0)) (.slice At (Au size (d.sec 0)).1.length ct));have rA:=ae<|al8.aw (.inr (dX _)) (bP (Ar (d.sec 0)) (.slice At (Au size (d.sec 0)).1.length ct));have HW8:=ae hb8;clear al8 hb8;generalize(W7.alloc (.cells #[.int .i64 0,.int .i64 0,.int .i64 0,.int .i64 0,.int .i64 0,.slice none 0 0] 110)).setRow W7.heap.size (bP (Ar (d.sec 0)) (.slice At (Au size (d.sec 0)).1.length ct))=W8 at *;have HS8:=ae<|(bQ.keep pz).keep rA;have l5:=ae<|(iu.trans pz).trans rA;have dx:=ae<|w8.ar rA fun _ _=>id;generalize W7.heap.size=wb at *
 cases hj:UF sh size (d.sec 0)with
 |false=>
  have HE:=aq (mn sh size d=d) (by unfold mn;rw[hj];rfl);clear hj;go_wp2_with fail;go_ret2;exact⟨sb,V,rfl,by rw[HE.out];exact HS8,Vr,fun k hk=>.inl hk,l5.mono fun k hk=>hk.elim⟩
 |true=>
  have HE:=aq (mn sh size d=(cZ sh d (Ar (d.sec 0)) (Au size (d.sec 0)).1 (cQ (d.sec 0) 5)).1) (by unfold mn;rw[hj];rfl);have hq:=hj;unfold UF at hq;simp only[Bool.and_eq_true,decide_eq_true_eq]at hq;obtain⟨⟨⟨⟨q1,q2⟩,q3⟩,q4⟩,q5⟩:=hq;have hlen:=LM q1;have wU:=HF.2.2;have aaH:=HP.s1;have HL:=aq ((Au size (d.sec 0)).1.length≤16) (by show(kM size (d.sec 0) _ _).1.length≤16;rw[hlen];omega);have AY:=BQ (wr:=Ar (d.sec 0)) (t:=(Au size (d.sec 0)).1) HS8 q2 ⟨by show 0≤((cQ (d.sec 0) 4:Nat):Int);omega,q3⟩ (dx.sa eZ) HL (BU (HF.2.1 0)) q5;rw[(qj HF.1.1 HF.1.2 _).1]at AY;have SC:=ae AY;clear AY q1 q2 q3 q4 q5 hlen wU aaH hj;go_wp2_with (first|(refine iy (bP (Ar (d.sec 0)) (.slice At (Au size (d.sec 0)).1.length ct)) HW8 Tryz.underlying110 ?_)|(go_at_call 58;refine SC.mono ?_;rintro e W9 ⟨rfl,hp⟩));go_ret2;obtain⟨V2,h2,AX,bq⟩:=hp;exact⟨sb,V2,rfl,by rw[HE.out];exact h2,Vr,fun k hk=>(AX k hk).elim .inl fun h=>.inr (Nat.le_trans l5.size h),(l5.mono fun k hk=>hk.elim).aG bq fun k hk=>.inl hk⟩
end
theorem xu {P:Program}{fn:Func}{p u:Tmp}{ty:TypeId}(h:fn.results=#[.cell p ty,.tmp u])(tmps:Array Value)(w:World)(g:Nat)(t:TypeId)(cs:Array Value)(fr:Nat×Nat)(d:TypeDesc)
 (hp:tmps.getD p undef= .pointer (some ⟨g,0,none⟩)) (hg:w.heap[g]? =some (.cells cs t fr))
 (hu:P.underlying ty=some d) (hd:(match d with| .struct _| .array _ _=>true|_=>false)=true) (hi:(P.info? ty).map (·.size)=some cs.size):
 (results fn tmps).run P w= .ok (.tuple #[.agg cs,tmps.getD u undef]) w:=by
 have qL:tmps[p]?.getD undef= .pointer (some ⟨g,0,none⟩):=by simpa using hp
 simp[results,h,qL,asAddr,run_loadVar_row w g t ty cs fr d hg hu hd hi,Sem.run_bind,Result.andThen]
section
variable {KO:bj}{i:KO.ι}{w:World}{cb mb:Nat}{c:aQ}{Aw:Value}{aP:Nat}{s:KO.σ}{D:Int→Option ll}
theorem ML {b:Int}(h:bH KO i w cb mb c Aw aP s D)(hb:b∉KO.sp.all s):D b=none:=by
 cases hd:D b with
 |none=>rfl
 |some p=>exact absurd ((h.keys b).1 (by rw[hd];rfl)) hb
theorem CY (b:Int)(h:bH KO i w cb mb c Aw aP s D)(hb:b∉KO.sp.all s):
 Calls Tryz.prog 67 #[.pointer (some ⟨cb,0,none⟩),.int .i64 b] w fun e w'=>e= .returned (.tuple #[.agg #[.int .i64 0,.slice none 0 0],.bool false])∧af au w w':=by
 have HC:=ae (fun w' (ho:af au w w')=>by
  have HC:=qC b (h.keep ho);rw[decide_eq_false hb]at HC;exact HC)
 clear h hb
 go_enter Tryz.func67,Tryz.ntmps67
 go_upto_region 1 with fail;have al:=(af.ai au w).alloc (.cells #[.int .i64 0,.slice none 0 0] 87);have HB:=ae<|Box.fresh w 87 #[.int .i64 0,.slice none 0 0];have HO:=ae al;have Kk:=ae<|HC _ al;change Code.wp _ _ _ _ (w.alloc (.cells #[.int .i64 0,.slice none 0 0] 87));clear al HC;generalize w.alloc (.cells #[.int .i64 0,.slice none 0 0] 87)=W1 at *;generalize iQ:w.heap.size=fb at *;have HF:=ae iQ;clear iQ;go_upto_region 2 with(go_at_call 97;refine Kk.mono ?_;rintro e w1 ⟨rfl,h1⟩);have b8:=ae<|h1.ak HB id;have bc:=ae<|HO.trans h1;clear h1 Kk HB HO;go_wp2_with (refine iP #[.int .i64 0,.slice none 0 0] b8 aU ?_)
 (try simp only[Exit.inBlock,Exit.then])
 refine bodyPost_ret (xu rfl _ _ fb _ #[.int .i64 0,.slice none 0 0] (0,0) _ rfl (b8.aw _) Tryz.underlying87 rfl aS) rfl ?_;exact⟨rfl,bc.aw (.inr (Nat.le_of_eq HF)) _⟩
theorem C0 {ab sb:Nat}{hv:Value}{rd:Int}{lm:Value}(b level:Int)(v:Value)(hm:c.f 4=2)(hl:level≠3)(ha:Box w ab 77 (lL c hv sb cb false rd lm))(h:bH KO i w cb mb c Aw aP s D)(hb:b∉KO.sp.all s):
 Calls Tryz.prog 64 #[.pointer (some ⟨ab,0,none⟩),.int .i64 b,.int .i64 level,v] w fun e w'=>e= .returned (.slice none 0 0)∧af au w w':=by
 have x4:aF w ab 4 2:=ha.ag (by rw[←hm];exact xR c hv sb cb false rd lm aE);have ZZ:aM w ab 18 (.pointer (some ⟨cb,0,none⟩)):=ha.ag rfl;have HDR:=ae<|CY b h hb;have MZ:(level==3)=false:=by simpa using hl
 clear ha h hb hm hl
 go_enter Tryz.func64,Tryz.ntmps64
 go_wp2_with (go_at_call 67;refine HDR.mono ?_;rintro e w1 ⟨rfl,h1⟩);go_ret;exact⟨rfl,h1⟩
def wQ (b:Int)(v:Value):Array Value:=#[.int .i64 12,.int .i64 0,.int .i64 0,.int .i64 0,.int .i64 0,.int .i64 b,.int .i64 0,.int .i64 0,.int .i64 0,.bool false,v]
theorem qA:(Tryz.prog.info? 37).map (fun i=>(i.zero,i.size,i.bytes))=some (some (.agg #[.int .i64 0,.int .i64 0,.int .i64 0,.int .i64 0,.int .i64 0,.int .i64 0,.int .i64 0,.int .i64 0,.int .i64 0,.bool false,.slice none 0 0]),11,104):=by kernel_rfl
def Uc (ab:Nat)(b:Int)(t:List Int)(cs:Array Value)(w:World)(e:Ending)(w':World):Prop:=
 ∃g q v,e= .returned (.slice (some ⟨g,0,none⟩) 1 q)∧(∀j u,(wQ b v).toList[j]? =some u→aM w' g j u)∧cH w' v t∧Box w' ab 77 cs∧af (az ab) w w'∧w.heap.size≤g
theorem oE{P:Prop}(h:P:=by
 intro w hSw;have hq:=hSw.2.1.ag (i:=5) (v:=.int .i64 (m.f 5)) rfl;clear hSw;go_simp;(try with_reducible rfl)):P:=h
theorem xz {ab sb db lb:Nat}{A:Option Addr}{n cp:Nat}{rd:Int}{lm:Value}{V:Nat→Value}{d:bC}{m:dI}{b size:Nat}(hm:c.f 4=2)(hl:m.f 6≠3)(yT:m.f 5=b)(ei:(b:Int)<c.f 2)(hsz:c.f 3=size)
 (E4:0≤rd∧rd<1000000) (ha:Box w ab 77 (lL c (.slice A n cp) sb cb false rd lm)) (h:bH KO i w cb mb c Aw aP s D) (jV:∀k,mr KO i cb mb c Aw D k→k≠ab) (hs:bX w sb db lb V (br c) d) (hb:(b:Int)∉KO.sp.all s):
 Calls Tryz.prog 33 #[.pointer (some ⟨ab,0,none⟩),.agg (bd m (.slice none 0 0))] w (Uc ab b (bD size (d.sec (1+b))).2 (lL c (.slice A n cp) sb cb false (rd+1) lm) w):=by
 have HA:=ae ha;have HC:=ae h;have HS:=ae hs;have JK:=ae (show m.f 5∉KO.sp.all s by rw[yT];exact hb);have Kd:=ae hm;have HL:=ae hl;have Bd:=ae yT;have b8:=ae ei;have lh:=ae hsz;have abf:=ae E4;have AO:=ae jV;have cD:=ae ha.lt;clear ha h hs hb hm hl yT ei hsz E4 jV
 go_enter Tryz.func33,Tryz.ntmps33
 go_upto_region 1 with fail;obtain⟨mc,hmc⟩:∃mc,mc=mb:=⟨_,rfl⟩;subst hmc;have l8:=(af.ai au w).alloc (.cells (bd m (.slice none 0 0)) 37);have bc:=ae l8;have Fm:=ae<|Box.fresh w 37 (bd m (.slice none 0 0));have dZ:=ae<|l8.ak HA id;have Kk:=ae<|HC.keep l8;change Code.wp _ _ _ _ (w.alloc (.cells (bd m (.slice none 0 0)) 37));clear l8;generalize w.alloc (.cells (bd m (.slice none 0 0)) 37)=W1 at *;obtain⟨mb,tY⟩:∃mb,mb=w.heap.size:=⟨_,rfl⟩;rw[←tY]at Fm cD ⊢;have vg:=ae tY;clear tY;refine gg (fun w':World=>Box w' ab 77 (lL c (.slice A n cp) sb cb false rd lm)∧Box w' mb 37 (bd m (.slice none 0 0))∧af au w w') 11 ?_ ?_
 ·first|exact r9|exact⟨dZ.drew,Fm.drew,bc.drew⟩
 intro aC;refine bE [0,1,2] ?_;refine aB (i:=3) (v:=.pointer (some ⟨cb,0,none⟩)) aS rfl aS (fun _ _ _ h=>h) (.inl ⟨by rfl,?_⟩) aC ?_
 ·intro w hSw;have hq:=hSw.1.ag (i:=18) (v:=.pointer (some ⟨cb,0,none⟩)) rfl;clear hSw;go_simp;(try with_reducible rfl)
 refine dU ?_;refine bE [4] ?_;refine aB (i:=5) (v:=.int .i64 (m.f 5)) aS rfl aS (fun _ _ _ h=>h) (.inl ⟨by rfl,?_⟩) aC ?_
 ·exact oE
 refine dU ?_;refine cX 6 fun K hK=>?_
 go_simp;refine(rX (b:=m.f 5) (Kk.keep ((af.ai au W1).drew)) (ML Kk JK)).mono ?_;rintro e W2 ⟨rfl,bq⟩;have r9:Box W2 ab 77 (lL c (.slice A n cp) sb cb false rd lm)∧Box W2 mb 37 (bd m (.slice none 0 0))∧af au w W2:=⟨bq.ak aC.1 id,bq.ak aC.2.1 id,aC.2.2.trans bq⟩;have bu:=ae bq;clear bq;refine dy hK ?_ fun aC=>?_
 ·first|exact r9|exact⟨dZ.drew,Fm.drew,bc.drew⟩
 clear hK;refine bE [7,8,9,10] ?_;refine dE ?_;have AG:=ae r9;have Nj:=ae<|(Kk.keep ((af.ai au W1).drew)).keep bu;clear aC r9;go_upto_region 3 with fail;have Sn:=ae<|(((HS.keep bc).keep ((af.ai au W1).drew)).keep bu).keep ((af.ai au W2).drew);have AH:=BR (sh:=br c) (b:=b) (size:=size) b8 lh Sn;rw[←Bd.out]at AH;have AH:=ae AH;have sg:=ae<|lZ size (d.sec (1+b));generalize(bD size (d.sec (1+b))).1=lF at *;generalize(bD size (d.sec (1+b))).2=t at *;refine gg (fun w':World=>Box w' ab 77 (lL c (.slice A n cp) sb cb false rd lm)∧Box w' mb 37 (bd m (.slice none 0 0))∧af au w w') 13 ?_ ?_
 ·first|exact uF|exact⟨AG.1.drew,AG.2.1.drew,AG.2.2.drew⟩
 intro aC;refine bE [0,1,2] ?_;refine aB (i:=3) (v:=.pointer (some ⟨sb,0,none⟩)) aS rfl aS (fun _ _ _ h=>h) (.inl ⟨by rfl,?_⟩) aC ?_
 ·intro w hSw;have hq:=hSw.1.ag (i:=17) (v:=.pointer (some ⟨sb,0,none⟩)) rfl;clear hSw;go_simp;(try with_reducible rfl)
 refine dU ?_;refine bE [4] ?_;refine aB (i:=5) (v:=.int .i64 (m.f 5)) aS rfl aS (fun _ _ _ h=>h) (.inl ⟨by rfl,?_⟩) aC ?_
 ·exact oE
 refine dU ?_;refine cX 6 fun K hK=>?_
 go_simp;refine AH.mono ?_;rintro e W3 ⟨v,rfl,wK,bV,Gj⟩;have uF:Box W3 ab 77 (lL c (.slice A n cp) sb cb false rd lm)∧Box W3 mb 37 (bd m (.slice none 0 0))∧af au w W3:=⟨bV.ak aC.1 id,bV.ak aC.2.1 id,aC.2.2.trans bV⟩;have bI:=ae bV;have ej:=ae wK;have HK3:=ae Gj;clear bV wK Gj;refine dy hK ?_ fun aC=>?_
 ·first|exact uF|exact⟨AG.1.drew,AG.2.1.drew,AG.2.2.drew⟩
 clear hK;refine bE [7,8,9,10,11,12] ?_;refine dE ?_;have Dq:=ae uF;have JP:=ae<|(Nj.keep ((af.ai au W2).drew)).keep bI;have y20:aF W3 ab 20 rd:=uF.1.ag rfl;have g20:W3.frozen? ⟨ab,20,none⟩=false:=uF.1.free _;have RZ:IntKind.i64.wrap (rd+1)=rd+1:=by have:=abf.out;rw[IntKind.wrap_i64];omega
 clear aC uF AH;go_upto_region 9 with fail;have j4:af (az ab) W3 (W3.setCell ⟨ab,20,none⟩ (.int .i64 (rd+1))):=(af.ai (az ab) W3).setCell (p:=⟨ab,20,none⟩) (.inl (show az ab ab from rfl)) _;have iw:=aq (Box (W3.setCell ⟨ab,20,none⟩ (.int .i64 (rd+1))) ab 77 (lL c (.slice A n cp) sb cb false (rd+1) lm)) (Dq.1.store 20 _);have OM:=ae<|j4.ak Dq.2.1 (show¬mb=ab by have:=cD.out;omega);have cr:=ae<|(Dq.2.2.mono (S':=az ab) fun k h=>h.elim).trans j4;have SD:=ae<|JP.Yh j4 fun k hk e=>AO k hk e;have hR4:=ej.ar j4 fun k hk e=>by have h1:k=ab:=e;have h2:=HK3.out k hk;have h3:=AG.2.2.size;have h4:=cD.out;have h5:=vg.out;have h6:W2.drew.heap.size=W2.heap.size:=rfl;omega
 have jh:=ae hR4;have HK4:=aq (∀k,aJ v k→w.heap.size≤k) (fun k hk=>Nat.le_trans AG.2.2.size (HK3 k hk));clear j4 RZ y20 g20 hR4;generalize W3.setCell ⟨ab,20,none⟩ (.int .i64 (rd+1))=W4 at *;have z5:aF W4 mb 5 (m.f 5):=OM.ag rfl;have z6:aF W4 mb 6 (m.f 6):=OM.ag rfl;have HKP:=ae<|C0 (m.f 5) (m.f 6) v Kd HL iw SD JK;go_upto_region 11 with(go_at_call 64;refine HKP.mono ?_;rintro e W5 ⟨rfl,fz⟩);have Bf:=ae<|fz.ak iw id;have Kb:=ae<|fz.ak OM id;have ek:=ae<|cr.cE fz;have fY:=ae<|jh.ar fz fun _ _=>id;clear z5 z6 HKP fz iw OM cr jh;have z5:aF W5 mb 5 (m.f 5):=Kb.ag rfl;rw[Bd.out]at z5;obtain⟨B,cv,QJ,_,_⟩:=fY.shape;rw[b7]at QJ;subst QJ;have wR:=(af.ai au W5).alloc (.cells (wQ b (.slice B t.length cv)) 37);have HCN:=ae<|iH W5 (wQ b (.slice B t.length cv)).toList 37;have lI:=ae<|World.ownsRow_nil (W5.alloc (.cells (wQ b (.slice B t.length cv)) 37)) W5.heap.size 37 11;have abr:=ae (show∀u∈(wQ b (.slice B t.length cv)).toList,u.oneCell'=true by simp[wQ,Value.oneCell']);have AP:=ae<|wR.ak Bf id;have iu:=ae<|ek.cE wR;have kK:=ae<|fY.ar wR fun _ _=>id;have HZ:=aq (W5.heap.size≤(W5.alloc (.cells (wQ b (.slice B t.length cv)) 37)).heap.size) (wR.size);clear wR;go_wp2_with (at_builtin;refine fE _ rfl (.tmp 66) (.tmp 71) 43 37 rfl qA rfl aE Tryz.underlying43 W5.heap.size (.slice none 0 0) 0 [] (wQ b (.slice B t.length cv)).toList rfl lI ⟨W5.heap.size,0,none⟩ rfl rfl HCN abr aE aE HZ ?_;intro v7 W7 h7 l4 _;obtain⟨g,q,hv7,Wv,hg1,hc7⟩:=s4 h7 aE;subst hv7;have pz:=ae l4;have HC7:=ae hc7;have HG:=ae Wv;clear h7 l4 hc7 Wv hg1);go_ret;have j7:af au (W5.alloc (.cells (wQ b (.slice B t.length cv)) 37)) W7:=pz.mono fun k hk=>(bo hk).elim
 exact⟨g,q,.slice B t.length cv,rfl,HC7,(kK.ar j7 fun _ _=>id).sa (by have h1:=sg.out;have h2:=HS.sd.s1;have h3:(br c) 1=size:=lh.out;omega),j7.ak AP id,iu.cE j7,Nat.le_trans ek.size HG⟩
end
end Go.Proofs.YtpcfhbeakecihaaGreat

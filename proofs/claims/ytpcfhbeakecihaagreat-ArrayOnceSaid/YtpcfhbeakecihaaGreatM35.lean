/- Lemmas. -/
import Derived.Test.YtpcfhbeakecihaaGreatM12
import Derived.Test.YtpcfhbeakecihaaGreatM24
import Derived.Test.YtpcfhbeakecihaaGreatM34
set_option linter.all false
set_option maxHeartbeats 20000000
set_option maxRecDepth 100000
namespace Go.Proofs.YtpcfhbeakecihaaGreat
open Go.ChangeShapes Go.RowKit Go.WideShapes
theorem tG (sh:Nat→Int)(db:Nat):Tryz.prog.built 108 [(0,.agg (dY sh)),(1,.pointer (some ⟨db,0,none⟩))]=some (p7 sh db):=by kernel_rfl
theorem mF (size:Nat)(b:List Int):(eH size b).2.length=size:=by
 unfold eH
 split
 ·rename_i h
  have h:=h.1;unfold lz at h ⊢
  split at h
  ·split at h
   ·simp only[Bool.and_eq_true,beq_iff_eq]at h;rw[if_pos (by assumption)]
    rename_i hq
    first|(show List.length _=size;simp only;omega)|(rw[hq];simp only;omega)
   ·cases h
  ·cases h
 ·simp
section
variable {w:World}{sb db lb:Nat}{V:Nat→Value}{sh:Nat→Int}{d:dH}
theorem cy{P:Prop}(h:P:=by
 first|exact BZ|exact xd|exact aX|exact⟨Mb.drew,zn.keep ((af.ak aA _).drew),bw.drew⟩):P:=h
theorem sC (hp:zh sh)(h:dI w db lb V d)(f0: -1≤d.b9)(f1:d.b9≤9223372036854775807)(hb:∀i,sm (d.sec i))(he:d.sec 0= []):
 Calls Tryz.prog 30 #[.pointer (some ⟨db,0,none⟩),.agg (dY sh)] w fun e w'=>∃sb,e= .returned (.tuple #[.pointer (some ⟨sb,0,none⟩),.int .i64 0])∧gF w' sb db lb V sh d∧w.heap.size≤sb∧af aA w w':=by
 have HD:=ae h;have HP:=ae hp;have HF:=aH ((-1≤d.b9∧d.b9≤9223372036854775807)∧(∀i,sm (d.sec i))∧d.sec 0= []) (⟨⟨f0,f1⟩,hb,he⟩);have hm:=hp.mul (c:=0) (Int.le_refl _) (by have:=hp.c0;omega);have Ot:1+sh 0+sh 2*sh 3≤64:=by have:=hp.b1;omega
 have HR:=ae<|fun w=>sN hp w;have Pd:=ae<|fun w=>pf hp w;clear h hp f0 f1 hb he hm
 go_enter Tryz.func30,Tryz.ntmps30
 go_upto_region 3 with fail;have ku:=(af.ak aA w).alloc (.cells (dY sh) 74);have Mb:=ae<|Box.fresh w 74 (dY sh);have bw:=ae ku;have zn:=ae<|HD.keep ku;change Code.wp _ _ _ _ (w.alloc (.cells (dY sh) 74));clear ku;generalize w.alloc (.cells (dY sh) 74)=W1 at *;obtain⟨pb,Ad⟩:∃pb,pb=w.heap.size:=⟨_,rfl⟩;rw[←Ad]at Mb ⊢;have FW:=ae Ad;clear Ad;refine kb (fun w':World=>Box w' pb 74 (dY sh)∧dI w' db lb V d∧af aA w w') 10 ?_ ?_
 ·exact cy
 intro aX;refine bj (i:=0) (v:=.agg (dY sh)) bJ rfl bJ (fun _ _ _ h=>h) (yieldsIf_load_mid (by rfl) 74 _ rfl pb 0 rfl (dY sh).toList _ (fun w hw j v hj=>by rw[Nat.zero_add];exact hw.1.ag (by rw[←Array.getElem?_toList];exact hj)) Tryz.underlying74 rfl bJ) (by assumption) ?_;refine sd ?_;refine lh 1 fun K hK=>?_
 go_simp;refine(HR _).mono ?_;rintro e W3 ⟨rfl,bQ⟩;have xd:Box W3 pb 74 (dY sh)∧dI W3 db lb V d∧af aA w W3:=⟨bQ.az aX.1 id,aX.2.1.keep bQ,aX.2.2.trans bQ⟩;clear bQ;refine lj hK ?_ fun aX=>?_
 ·exact cy
 clear hK;refine eZ [2,3,4] ?_;refine bj (i:=6) (v:=.agg (dY sh)) bJ rfl bJ (fun _ _ _ h=>h) (yieldsIf_load_mid (by rfl) 74 _ rfl pb 0 rfl (dY sh).toList _ (fun w hw j v hj=>by rw[Nat.zero_add];exact hw.1.ag (by rw[←Array.getElem?_toList];exact hj)) Tryz.underlying74 rfl bJ) (by assumption) ?_;refine sd ?_;refine lh 5 fun K hK=>?_
 go_simp;refine(xO aX.2.1).mono ?_;rintro e W4 ⟨rfl,rfl⟩;refine lj hK ?_ fun aX=>?_
 ·exact cy
 clear hK;refine lh 7 fun K hK=>?_
 go_simp;refine(Pd _).mono ?_;rintro e W5 ⟨rfl,eD⟩;have BZ:Box W5 pb 74 (dY sh)∧dI W5 db lb V d∧af aA w W5:=⟨eD.az aX.1 id,aX.2.1.keep eD,aX.2.2.trans eD⟩;clear eD;refine lj hK ?_ fun aX=>?_
 ·exact cy
 clear hK;refine eZ [8,9] ?_;refine jz ?_;have HS:=ae aX;clear aX xd BZ;go_upto_region 6 with(first|(refine wpList_load_row rfl 74 _ rfl pb rfl 74 (dY sh) (0,0) _ HS.1 Tryz.underlying74 rfl bJ ?_)|(refine cj rfl _ _ rfl [(0,.agg (dY sh)),(1,.pointer (some ⟨db,0,none⟩))] _ (by simp[Act.eval]) (tG sh db) ?_));have sj:=(af.ak aA W5).alloc (.cells (p7 sh db) 108);have F9:=ae<|Box.fresh W5 108 (p7 sh db);have lO:=ae<|HS.2.2.trans sj;have MB:=ae<|HS.2.1.keep sj;have Py:=aH (∀k,gN db lb V k→k<W5.heap.size) (fun k hk=>HS.2.1.lt hk);have O5:=aH (w.heap.size≤W5.heap.size) (HS.2.2.size);change Code.wp _ _ _ _ (W5.alloc (.cells (p7 sh db) 108));clear sj HS;generalize W5.alloc (.cells (p7 sh db) 108)=W6 at *;generalize W5.heap.size=sb at *;have za:gF W6 sb db lb V sh d:=
  {az:=F9.out,B1:=MB.out,off:=fun hk=>by have:=Py.out _ hk;omega,zW:=HP.out,f0:=HF.1.1,f1:=HF.1.2,EY:=HF.2.1}
 have Io:=ae za;have HJ:=ae<|ny HF.2.2 za;clear za F9 MB Ot;unfold ka at HJ;go_wp2_with (go_at_call 57;refine HJ.mono ?_;rintro e W7 ⟨rfl,pW⟩);go_ret2;exact⟨sb,rfl,(Io.keep pW).keep ((af.ak aA W7).alloc _),O5,(lO.trans pW).alloc _⟩
theorem vz {b size:Nat}(hb:(b:Int)<sh 0)(hsz:sh 1=size)(h:gF w sb db lb V sh d):
 Calls Tryz.prog 31 #[.pointer (some ⟨sb,0,none⟩),.int .i64 b] w fun e w'=>∃v,e= .returned (.tuple #[v,.int .i64 (eH size (d.sec (1+b))).1,.int .i64 0])∧Row 5 w' v (bytes (eH size (d.sec (1+b))).2)∧af aA w w'∧∀k,aJ v k→w.heap.size≤k:=by
 have HB:=ae<|sD hb hsz h;have HL:=ae<|mF size (d.sec (1+b));have x0:=(dP h).1;generalize(eH size (d.sec (1+b))).1=n1 at *;generalize(eH size (d.sec (1+b))).2=t1 at *;have xj:=aH (size≤16) (by have:=h.zW.s1;omega);generalize sh 0=s0 at *;have tS:(0:Int)≤b:=ai;clear h hsz
 go_enter Tryz.func31,Tryz.ntmps31
 go_upto_region 6 with(go_at_call 59;refine HB.mono ?_;rintro e W1 ⟨v,rfl,Ka,a8,Ai⟩);have F6:=ae<|cI v t1 W1 (Ka.nR (by have h1:=HL.out;have h2:=xj.out;omega));have bw:=ae a8;clear Ka a8 Ai HB;go_wp2_with (go_at_call 60;refine F6.mono ?_;rintro e W2 ⟨u,rfl,rj,bd,tQ⟩)
 go_ret3
 exact⟨u,rfl,rj,bw.trans bd,fun k hk=>Nat.le_trans bw.size (tQ k hk)⟩
theorem zM {b:Int}(hb:¬(0≤b∧b<sh 0))(h:gF w sb db lb V sh d):
 Calls Tryz.prog 31 #[.pointer (some ⟨sb,0,none⟩),.int .i64 b] w fun e w'=>e= .returned (.tuple #[.slice none 0 0,.int .i64 0,.int .i64 9])∧w=w':=by
 have x0:=(dP h).1;generalize sh 0=s0 at *;clear h
 by_cases h0:0≤b
 ·have h1:¬b<s0:=fun h=>hb ⟨h0,h⟩
  have h2:¬b<0:=ai;have h3:s0≤b:=ai;clear hb
  go_enter Tryz.func31,Tryz.ntmps31
  go_wp2_with fail
  go_ret3
  exact⟨rfl,rfl⟩
 ·have h2:b<0:=ai;clear hb
  go_enter Tryz.func31,Tryz.ntmps31
  go_wp2_with fail
  go_ret3
  exact⟨rfl,rfl⟩
end
def sr (c:aN):Nat→Int:=fun i=>if i=0 then c.f 2 else if i=1 then c.f 3 else if i=2 then c.f 0 else c.f 1
theorem xK {c:aN}(h:dJ c):zh (sr c):=by
 have h0:=h.p0;have h1:=h.p1;have h2:=h.p2;have h3:=h.p3;exact⟨h2.1,h2.2,h3.1,h3.2,h0.1,h0.2,h1.1,h1.2⟩
def iG (c:aN)(hv:Value)(sb cb:Nat)(down:Bool)(reads:Int)(lm:Value):Array Value:=aj c hv ++ #[.pointer (some ⟨sb,0,none⟩),.pointer (some ⟨cb,0,none⟩),.bool down,.int .i64 reads,lm]
theorem Eo (c:aN)(hv:Value)(sb cb:Nat)(down:Bool)(reads:Int)(lm:Value){i:Nat}(hi:i<16):(iG c hv sb cb down reads lm)[i]? =some (.int .i64 (c.f i)):=by
 unfold iG;exact dx
theorem tI (c:aN)(A:Option Addr)(n cp sb cb mb:Nat):Tryz.prog.built 77 [(0,.agg (aj c (.slice A n cp))),(1,.pointer (some ⟨sb,0,none⟩)),(2,.pointer (some ⟨cb,0,none⟩)),(5,.map (some mb))]=some (iG c (.slice A n cp) sb cb false 0 (.map (some mb))):=by kernel_rfl
def Bx (K:aZ)(c:aN)(A:Option Addr)(n cp db lb:Nat)(V:Nat→Value)(d:dH)(w:World)(e:Ending)(w':World):Prop:=
 ∃i ab cb mb sb ri lm,e= .returned (.tuple #[.pointer (some ⟨ab,0,none⟩),.int .i64 0])∧Box w' ab 77 (iG c (.slice A n cp) sb cb false 0 lm)∧aQ K i w' cb mb c ri 3 K.s0 (fun _=>none)∧gF w' sb db lb V (sr c) d∧
  (∀k,kB K i cb mb c ri (fun _=>none) k→w.heap.size≤k∧k<sb)∧w.heap.size≤sb∧sb<ab∧af aA w w'
section
theorem yJ {KO:aZ}{c:aN}(hK:KO.Made c 3)(hP:dJ c){A:Option Addr}{n cp:Nat}{db lb:Nat}{V:Nat→Value}{d:dH}(w:World)(bI:aL w A n cp c.h)
 (h:dI w db lb V d) (f0: -1≤d.b9) (f1:d.b9≤9223372036854775807) (hb:∀i,sm (d.sec i)) (he:d.sec 0= []):
 Calls Tryz.prog 10 #[.agg (aj c (.slice A n cp)),.pointer (some ⟨db,0,none⟩)] w (Bx KO c A n cp db lb V d w):=by
 have HD:=ae h;have HP:=ae hP;have HF:=aH ((-1≤d.b9∧d.b9≤9223372036854775807)∧(∀i,sm (d.sec i))∧d.sec 0= []) (⟨⟨f0,f1⟩,hb,he⟩);have HI:=ae bI;have nP:=ae<|fun w bI=>r8 (A:=A) (n:=n) (cp:=cp) hK hP (by decide:1≤3) (by decide:3≤3) w bI;clear h f0 f1 hb he bI hP
 go_enter Tryz.func10,Tryz.ntmps10
 go_upto_region 1 with fail;have ku:=(af.ak aA w).alloc (.cells (aj c (.slice A n cp)) 25);have cQ:=ae<|Box.fresh w 25 (aj c (.slice A n cp));have bw:=ae ku;have HR:=ae<|nP _ (HI.keep ku);change Code.wp _ _ _ _ (w.alloc (.cells (aj c (.slice A n cp)) 25));clear ku;generalize w.alloc (.cells (aj c (.slice A n cp)) 25)=W1 at *;generalize BX:w.heap.size=bb at *;have MH:=ae BX;clear BX;go_upto_region 2 with(first|(refine pL (aj c (.slice A n cp)) cQ Tryz.underlying25 ?_)|(go_at_call 29;refine HR.mono ?_;rintro e W2 ⟨i,cb,mb,ri,rfl,uf,FC,xv,AF,xu,bd⟩));have eC:=ae<|bd.az cQ id;have bR:=ae<|bw.trans bd;have F7:=ae uf;have Dl:=aH (∀k,kB KO i cb mb c ri (fun _=>none) k→w.heap.size≤k∧k<W2.heap.size) (by
  have hsz:=bw.size;intro k hk;have h3:=uf.Em hk;rcases hk with hk|hk|hk|⟨_,_,_,hk,_⟩|hk
  ·have:=FC k hk;exact⟨ai,h3⟩
  ·exact⟨ai,h3⟩
  ·exact⟨ai,h3⟩
  ·cases hk
  ·have:=xu hk.1 k hk.2;exact⟨ai,h3⟩)
 have PG:=ae<|(HD.keep bw).keep bd;clear bd cQ bw HR uf FC xv AF xu nP;have x0:aF W2 bb 0 (c.f 0):=eC.ag (aB c _ av);have x1:aF W2 bb 1 (c.f 1):=eC.ag (aB c _ av);have x2:aF W2 bb 2 (c.f 2):=eC.ag (aB c _ av);have x3:aF W2 bb 3 (c.f 3):=eC.ag (aB c _ av);have Md:=ae<|sC (xK HP) PG HF.1.1 HF.1.2 HF.2.1 HF.2.2;go_upto_region 5 with(go_at_call 30;refine Md.mono ?_;rintro e W3 ⟨sb,rfl,wZ,DA,bQ⟩);have kj:=ae<|bQ.az eC id;have IK:=ae<|F7.keep bQ;have uj:=ae wZ;have b7:=ae<|bR.trans bQ;have FT:=aH (W2.heap.size≤sb∧sb<W3.heap.size) (⟨DA,wZ.az.lt⟩);clear bQ wZ DA Md x0 x1 x2 x3 eC F7;have nM:= @run_makeMap Tryz.prog;go_upto_region 7 with fail;go_wp2_with (first|(refine pL (aj c (.slice A n cp)) kj Tryz.underlying25 ?_)|(refine cj rfl _ _ rfl [(0,.agg (aj c (.slice A n cp))),(1,.pointer (some ⟨sb,0,none⟩)),(2,.pointer (some ⟨cb,0,none⟩)),(5,.map (some W3.heap.size))] _ (by simp[Act.eval]) (tI c A n cp sb cb W3.heap.size) ?_));go_ret2;have Ib:=(af.ak aA W3).alloc (.map #[] 0);have jY:=Box.fresh (W3.alloc (.map #[] 0)) 77 (iG c (.slice A n cp) sb cb false 0 (.map (some W3.heap.size)));have sj:=(af.ak aA (W3.alloc (.map #[] 0))).alloc (.cells (iG c (.slice A n cp) sb cb false 0 (.map (some W3.heap.size))) 77);have hz:(W3.alloc (.map #[] 0)).heap.size=W3.heap.size+1:=by simp
 rw[hz]at jY;refine⟨i,W3.heap.size+1,cb,mb,sb,ri,.map (some W3.heap.size),?_,jY,(IK.keep Ib).keep sj,(uj.keep Ib).keep sj,fun k hk=>?_,?_,?_,(b7.trans Ib).trans sj⟩
 ·simp
 ·have h1:=Dl.out k hk;have h2:=FT.out;exact⟨h1.1,ai⟩
 ·have h1:=bR.size;have h2:=FT.out;omega
 ·have h2:=FT.out;omega
end
theorem lJ {P:Program}{fn:Func}{p u:Tmp}{ty:TypeId}(h:fn.results=#[.cell p ty,.tmp u])(tmps:Array Value)(w:World)(g:Nat)(t:TypeId)(cs:Array Value)(fr:Nat×Nat)(d:TypeDesc)
 (hp:tmps.getD p undef= .pointer (some ⟨g,0,none⟩)) (hg:w.heap[g]? =some (.cells cs t fr))
 (hu:P.underlying ty=some d) (hd:(match d with| .struct _| .array _ _=>true|_=>false)=true) (hi:(P.info? ty).map (·.size)=some cs.size):
 (results fn tmps).run P w= .ok (.tuple #[.agg cs,tmps.getD u undef]) w:=by
 have iE:tmps[p]?.getD undef= .pointer (some ⟨g,0,none⟩):=by simpa using hp
 simp[results,h,iE,asAddr,run_loadVar_row w g t ty cs fr d hg hu hd hi,Sem.run_bind,Result.andThen]
section
variable {KO:aZ}{i:KO.ι}{w:World}{cb mb:Nat}{c:aN}{ri:Value}{aw:Nat}{s:KO.σ}{D:Int→Option gA}
theorem wq {b:Int}(h:aQ KO i w cb mb c ri aw s D)(hb:b∉KO.sp.all s):D b=none:=by
 cases hd:D b with
 |none=>rfl
 |some p=>exact absurd ((h.keys b).1 (by rw[hd];rfl)) hb
theorem pI (b:Int)(h:aQ KO i w cb mb c ri aw s D)(hb:b∉KO.sp.all s):
 Calls Tryz.prog 67 #[.pointer (some ⟨cb,0,none⟩),.int .i64 b] w fun e w'=>e= .returned (.tuple #[.agg #[.int .i64 0,.slice none 0 0],.bool false])∧af aA w w':=by
 have HC:=ae (fun w' (ho:af aA w w')=>by
  have HC:=ib b (h.keep ho);rw[decide_eq_false hb]at HC;exact HC)
 clear h hb
 go_enter Tryz.func67,Tryz.ntmps67
 go_upto_region 1 with fail;have al:=(af.ak aA w).alloc (.cells #[.int .i64 0,.slice none 0 0] 87);have HB:=ae<|Box.fresh w 87 #[.int .i64 0,.slice none 0 0];have HO:=ae al;have Ch:=ae<|HC _ al;change Code.wp _ _ _ _ (w.alloc (.cells #[.int .i64 0,.slice none 0 0] 87));clear al HC;generalize w.alloc (.cells #[.int .i64 0,.slice none 0 0] 87)=W1 at *;generalize jd:w.heap.size=fb at *;have HF:=ae jd;clear jd;go_upto_region 2 with(go_at_call 97;refine Ch.mono ?_;rintro e w1 ⟨rfl,h1⟩);have cQ:=ae<|h1.az HB id;have bw:=ae<|HO.trans h1;clear h1 Ch HB HO;go_wp2_with (refine pT #[.int .i64 0,.slice none 0 0] cQ (by simp[Value.oneCell']) ?_)
 (try simp only[Exit.inBlock,Exit.then])
 refine bodyPost_ret (lJ rfl _ _ fb _ #[.int .i64 0,.slice none 0 0] (0,0) _ rfl (cQ.aK _) Tryz.underlying87 rfl bJ) rfl ?_;exact⟨rfl,bw.aK (.inr (Nat.le_of_eq HF)) _⟩
theorem pJ {ab sb:Nat}{hv:Value}{rd:Int}{lm:Value}(b level:Int)(v:Value)(hm:c.f 4=2)(hl:level≠3)(ha:Box w ab 77 (iG c hv sb cb false rd lm))(h:aQ KO i w cb mb c ri aw s D)(hb:b∉KO.sp.all s):
 Calls Tryz.prog 64 #[.pointer (some ⟨ab,0,none⟩),.int .i64 b,.int .i64 level,v] w fun e w'=>e= .returned (.slice none 0 0)∧af aA w w':=by
 have x4:aF w ab 4 2:=ha.ag (by rw[←hm];exact Eo c hv sb cb false rd lm av);have Qc:ba w ab 18 (.pointer (some ⟨cb,0,none⟩)):=ha.ag rfl;have PE:=ae<|pI b h hb;have wG:(level==3)=false:=by simpa using hl
 clear ha h hb hm hl
 go_enter Tryz.func64,Tryz.ntmps64
 go_wp2_with (go_at_call 67;refine PE.mono ?_;rintro e w1 ⟨rfl,h1⟩);go_ret;exact⟨rfl,h1⟩
def wL (b:Int)(v:Value):Array Value:=#[.int .i64 12,.int .i64 0,.int .i64 0,.int .i64 0,.int .i64 0,.int .i64 b,.int .i64 0,.int .i64 0,.int .i64 0,.bool false,v]
theorem yg:(Tryz.prog.info? 37).map (fun i=>(i.zero,i.size,i.bytes))=some (some (.agg #[.int .i64 0,.int .i64 0,.int .i64 0,.int .i64 0,.int .i64 0,.int .i64 0,.int .i64 0,.int .i64 0,.int .i64 0,.bool false,.slice none 0 0]),11,104):=by kernel_rfl
def Bw (ab:Nat)(b:Int)(t:List Int)(cs:Array Value)(w:World)(e:Ending)(w':World):Prop:=
 ∃g q v,e= .returned (.slice (some ⟨g,0,none⟩) 1 q)∧(∀j u,(wL b v).toList[j]? =some u→ba w' g j u)∧b8 w' v t∧Box w' ab 77 cs∧af (aM ab) w w'∧w.heap.size≤g
theorem fT{P:Prop}(h:P:=by
 intro w hSw;have hq:=hSw.2.1.ag (i:=5) (v:=.int .i64 (m.f 5)) rfl;clear hSw;go_simp;(try with_reducible rfl)):P:=h
theorem lL {ab sb db lb:Nat}{A:Option Addr}{n cp:Nat}{rd:Int}{lm:Value}{V:Nat→Value}{d:dH}{m:ec}{b size:Nat}(hm:c.f 4=2)(hl:m.f 6≠3)(Hn:m.f 5=b)(dq:(b:Int)<c.f 2)(hsz:c.f 3=size)
 (J9:0≤rd∧rd<1000000) (ha:Box w ab 77 (iG c (.slice A n cp) sb cb false rd lm)) (h:aQ KO i w cb mb c ri aw s D) (si:∀k,kB KO i cb mb c ri D k→k≠ab) (hs:gF w sb db lb V (sr c) d) (hb:(b:Int)∉KO.sp.all s):
 Calls Tryz.prog 33 #[.pointer (some ⟨ab,0,none⟩),.agg (bc m (.slice none 0 0))] w (Bw ab b (eH size (d.sec (1+b))).2 (iG c (.slice A n cp) sb cb false (rd+1) lm) w):=by
 have HA:=ae ha;have HC:=ae h;have HS:=ae hs;have Au:=ae (show m.f 5∉KO.sp.all s by rw[Hn];exact hb);have Aw:=ae hm;have HL:=ae hl;have MF:=ae Hn;have cQ:=ae dq;have iw:=ae hsz;have Js:=ae J9;have zo:=ae si;have cT:=ae ha.lt;clear ha h hs hb hm hl Hn dq hsz J9 si
 go_enter Tryz.func33,Tryz.ntmps33
 go_upto_region 1 with fail;obtain⟨mc,NT⟩:∃mc,mc=mb:=⟨_,rfl⟩;subst NT;have ku:=(af.ak aA w).alloc (.cells (bc m (.slice none 0 0)) 37);have bw:=ae ku;have ry:=ae<|Box.fresh w 37 (bc m (.slice none 0 0));have rz:=ae<|ku.az HA id;have Ch:=ae<|HC.keep ku;change Code.wp _ _ _ _ (w.alloc (.cells (bc m (.slice none 0 0)) 37));clear ku;generalize w.alloc (.cells (bc m (.slice none 0 0)) 37)=W1 at *;obtain⟨mb,ud⟩:∃mb,mb=w.heap.size:=⟨_,rfl⟩;rw[←ud]at ry cT ⊢;have xh:=ae ud;clear ud;refine kb (fun w':World=>Box w' ab 77 (iG c (.slice A n cp) sb cb false rd lm)∧Box w' mb 37 (bc m (.slice none 0 0))∧af aA w w') 11 ?_ ?_
 ·first|exact rq|exact⟨rz.drew,ry.drew,bw.drew⟩
 intro aX;refine eZ [0,1,2] ?_;refine bj (i:=3) (v:=.pointer (some ⟨cb,0,none⟩)) bJ rfl bJ (fun _ _ _ h=>h) (.inl ⟨by rfl,?_⟩) aX ?_
 ·intro w hSw;have hq:=hSw.1.ag (i:=18) (v:=.pointer (some ⟨cb,0,none⟩)) rfl;clear hSw;go_simp;(try with_reducible rfl)
 refine sd ?_;refine eZ [4] ?_;refine bj (i:=5) (v:=.int .i64 (m.f 5)) bJ rfl bJ (fun _ _ _ h=>h) (.inl ⟨by rfl,?_⟩) aX ?_
 ·exact fT
 refine sd ?_;refine lh 6 fun K hK=>?_
 go_simp;refine(qX (b:=m.f 5) (Ch.keep ((af.ak aA W1).drew)) (wq Ch Au)).mono ?_;rintro e W2 ⟨rfl,bd⟩;have rq:Box W2 ab 77 (iG c (.slice A n cp) sb cb false rd lm)∧Box W2 mb 37 (bc m (.slice none 0 0))∧af aA w W2:=⟨bd.az aX.1 id,bd.az aX.2.1 id,aX.2.2.trans bd⟩;have bR:=ae bd;clear bd;refine lj hK ?_ fun aX=>?_
 ·first|exact rq|exact⟨rz.drew,ry.drew,bw.drew⟩
 clear hK;refine eZ [7,8,9,10] ?_;refine jz ?_;have ru:=ae rq;have F7:=ae<|(Ch.keep ((af.ak aA W1).drew)).keep bR;clear aX rq;go_upto_region 3 with fail;have Pb:=ae<|(((HS.keep bw).keep ((af.ak aA W1).drew)).keep bR).keep ((af.ak aA W2).drew);have wM:=vz (sh:=sr c) (b:=b) (size:=size) cQ iw Pb;rw[←MF.out]at wM;have wM:=ae wM;have wQ:=ae<|mF size (d.sec (1+b));generalize(eH size (d.sec (1+b))).1=Qo at *;generalize(eH size (d.sec (1+b))).2=t at *;refine kb (fun w':World=>Box w' ab 77 (iG c (.slice A n cp) sb cb false rd lm)∧Box w' mb 37 (bc m (.slice none 0 0))∧af aA w w') 13 ?_ ?_
 ·first|exact xd|exact⟨ru.1.drew,ru.2.1.drew,ru.2.2.drew⟩
 intro aX;refine eZ [0,1,2] ?_;refine bj (i:=3) (v:=.pointer (some ⟨sb,0,none⟩)) bJ rfl bJ (fun _ _ _ h=>h) (.inl ⟨by rfl,?_⟩) aX ?_
 ·intro w hSw;have hq:=hSw.1.ag (i:=17) (v:=.pointer (some ⟨sb,0,none⟩)) rfl;clear hSw;go_simp;(try with_reducible rfl)
 refine sd ?_;refine eZ [4] ?_;refine bj (i:=5) (v:=.int .i64 (m.f 5)) bJ rfl bJ (fun _ _ _ h=>h) (.inl ⟨by rfl,?_⟩) aX ?_
 ·exact fT
 refine sd ?_;refine lh 6 fun K hK=>?_
 go_simp;refine wM.mono ?_;rintro e W3 ⟨v,rfl,uc,bQ,wH⟩;have xd:Box W3 ab 77 (iG c (.slice A n cp) sb cb false rd lm)∧Box W3 mb 37 (bc m (.slice none 0 0))∧af aA w W3:=⟨bQ.az aX.1 id,bQ.az aX.2.1 id,aX.2.2.trans bQ⟩;have b7:=ae bQ;have B6:=ae uc;have Mm:=ae wH;clear bQ uc wH;refine lj hK ?_ fun aX=>?_
 ·first|exact xd|exact⟨ru.1.drew,ru.2.1.drew,ru.2.2.drew⟩
 clear hK;refine eZ [7,8,9,10,11,12] ?_;refine jz ?_;have uj:=ae xd;have IK:=ae<|(F7.keep ((af.ak aA W2).drew)).keep b7;have M0:aF W3 ab 20 rd:=xd.1.ag rfl;have g20:W3.frozen? ⟨ab,20,none⟩=false:=xd.1.free _;have GJ:IntKind.i64.wrap (rd+1)=rd+1:=by have:=Js.out;rw[IntKind.wrap_i64];omega
 clear aX xd wM;go_upto_region 9 with fail;have j4:af (aM ab) W3 (W3.setCell ⟨ab,20,none⟩ (.int .i64 (rd+1))):=(af.ak (aM ab) W3).setCell (p:=⟨ab,20,none⟩) (.inl (show aM ab ab from rfl)) _;have IM:=aH (Box (W3.setCell ⟨ab,20,none⟩ (.int .i64 (rd+1))) ab 77 (iG c (.slice A n cp) sb cb false (rd+1) lm)) (uj.1.store 20 _);have xD:=ae<|j4.az uj.2.1 (show¬mb=ab by have:=cT.out;omega);have jb:=ae<|(uj.2.2.mono (S':=aM ab) fun k h=>h.elim).trans j4;have IJ:=ae<|IK.Jl j4 fun k hk e=>zo k hk e;have KQ:=B6.ao j4 fun k hk e=>by have h1:k=ab:=e;have h2:=Mm.out k hk;have h3:=ru.2.2.size;have h4:=cT.out;have h5:=xh.out;have h6:W2.drew.heap.size=W2.heap.size:=rfl;omega
 have Aq:=ae KQ;have Q6:=aH (∀k,aJ v k→w.heap.size≤k) (fun k hk=>Nat.le_trans ru.2.2.size (Mm k hk));clear j4 GJ M0 g20 KQ;generalize W3.setCell ⟨ab,20,none⟩ (.int .i64 (rd+1))=W4 at *;have z5:aF W4 mb 5 (m.f 5):=xD.ag rfl;have z6:aF W4 mb 6 (m.f 6):=xD.ag rfl;have Ml:=ae<|pJ (m.f 5) (m.f 6) v Aw HL IM IJ Au;go_upto_region 11 with(go_at_call 64;refine Ml.mono ?_;rintro e W5 ⟨rfl,eD⟩);have PN:=ae<|eD.az IM id;have uk:=ae<|eD.az xD id;have kh:=ae<|jb.iJ eD;have wN:=ae<|Aq.ao eD fun _ _=>id;clear z5 z6 Ml eD IM xD jb Aq;have z5:aF W5 mb 5 (m.f 5):=uk.ag rfl;rw[MF.out]at z5;obtain⟨B,cv,yY,_,_⟩:=wN.shape;rw[cE]at yY;subst yY;have sj:=(af.ak aA W5).alloc (.cells (wL b (.slice B t.length cv)) 37);have PH:=ae<|tE W5 (wL b (.slice B t.length cv)).toList 37;have kc:=ae<|World.ownsRow_nil (W5.alloc (.cells (wL b (.slice B t.length cv)) 37)) W5.heap.size 37 11;have Jx:=ae (show∀u∈(wL b (.slice B t.length cv)).toList,u.oneCell'=true by simp[wL,Value.oneCell']);have PL:=ae<|sj.az PN id;have lO:=ae<|kh.iJ sj;have FU:=ae<|wN.ao sj fun _ _=>id;have HZ:=aH (W5.heap.size≤(W5.alloc (.cells (wL b (.slice B t.length cv)) 37)).heap.size) (sj.size);clear sj;go_wp2_with (at_builtin;refine j6 _ rfl (.tmp 66) (.tmp 71) 43 37 rfl yg rfl av Tryz.underlying43 W5.heap.size (.slice none 0 0) 0 [] (wL b (.slice B t.length cv)).toList rfl kc ⟨W5.heap.size,0,none⟩ rfl rfl PH Jx av av HZ ?_;intro v7 W7 h7 pW _;obtain⟨g,q,Ny,CW,Fm,KH⟩:=nG h7 av;subst Ny;have zk:=ae pW;have PI:=ae KH;have HG:=ae CW;clear h7 pW KH CW Fm);go_ret;have j7:af aA (W5.alloc (.cells (wL b (.slice B t.length cv)) 37)) W7:=zk.mono fun k hk=>(bq hk).elim
 exact⟨g,q,.slice B t.length cv,rfl,PI,(FU.ao j7 fun _ _=>id).nR (by have h1:=wQ.out;have h2:=HS.zW.s1;have h3:(sr c) 1=size:=iw.out;omega),j7.az PL id,lO.iJ j7,Nat.le_trans kh.size HG⟩
end
end Go.Proofs.YtpcfhbeakecihaaGreat

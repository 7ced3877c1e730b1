/- texts Ark Arl Atq -/
import Derived.Test.YtpcfhbeakecihaaGreatDwArj
import Derived.Test.YtpcfhbeakecihaaGreatM3
import Derived.Test.YtpcfhbeakecihaaGreatM2
import Derived.Test.YtpcfhbeakecihaaGreatM1
import Derived.Test.YtpcfhbeakecihaaGreatM4
import Derived.Test.YtpcfhbeakecihaaGreatM5
import Derived.Test.YtpcfhbeakecihaaGreatM32
import Derived.Test.YtpcfhbeakecihaaGreatM39
set_option linter.all false
set_option maxHeartbeats 20000000
set_option maxRecDepth 100000
namespace Go.Proofs.YtpcfhbeakecihaaGreat
open Go.RowKit Go.ChangeShapes Go.WideShapes
def fuseD (d:dH)(n:Int):dH:=if d.down=true then d else {d with b9:=max n (-1)}
def upD (d:dH):dH:={d with down:=false,b9:=-1}
section
section
variable {w:World}{db lb:Nat}{V:Nat→Value}{d:dH}
theorem dI.boxS {d':dH}{w':World}(h:dI w db lb V d)(hs:d'.sec=d.sec)(hb:Box w' db 66 #[cS lb 64 64,ah d'.b9,.bool d'.down])(ho:af (aM db) w w'):dI w' db lb V d':=
 {az:=hb,row:=ho.az h.row (fun e=>h.ne (show lb=db from e).symm),nR:=fun i hi=>by rw[hs];exact(h.nR i hi).ao ho fun k hk e=>(h.off i hi k hk).1 e,small:=fun i hi=>by rw[hs];exact h.small i hi,off:=fun i hi k hk=>⟨(h.off i hi k hk).1,(h.off i hi k hk).2.1,Nat.lt_of_lt_of_le (h.off i hi k hk).2.2 ho.size⟩,ne:=h.ne,u8:=fun i hi k hk=>by obtain⟨cs,hx⟩:=h.u8 i hi k hk;exact⟨cs,ho.az hx (h.off i hi k hk).1⟩}
theorem sec_fuse (h:dI w db lb V d)(n:Int):Calls Tryz.prog 11 #[aI db,ah n] w fun e w'=>e= .returned (.tuple #[])∧dI w' db lb V (fuseD d n)∧af (aM db) w w':=by
 have HH:=ae h;have x2:ba w db 2 (.bool d.down):=h.az.ag rfl;have x1:aF w db 1 d.b9:=h.az.ag rfl;have f1:w.frozen? ⟨db,1,none⟩=false:=h.az.free _
 cases hd:d.down with
 |true=>
  have HE:=aH (fuseD d n=d) (if_pos hd);rw[HE.out];rw[hd]at x2;clear h hd
  go_enter Tryz.func11,Tryz.ntmps11
  go_wp2_with fail
  go_end0
  exact⟨rfl,HH,af.ak _ _⟩
 |false=>
  have HE:=aH (fuseD d n= {d with b9:=max n (-1)}) (if_neg (by rw[hd];decide));rw[HE.out];rw[hd]at x2;have HD:=ae hd;clear h hd
  go_enter Tryz.func11,Tryz.ntmps11
  go_wp2_with fail
  go_end0
  have j:af (aM db) w (w.setCell ⟨db,1,none⟩ (ah (max n (-1)))):=(af.ak (aM db) w).setCell (p:=⟨db,1,none⟩) (.inl (show aM db db from rfl)) _;exact⟨rfl,HH.boxS (d':={d with b9:=max n (-1)}) rfl (HH.az.store 1 _) j,j⟩
theorem sec_up (h:dI w db lb V d):Calls Tryz.prog 12 #[aI db] w fun e w'=>e= .returned (.tuple #[])∧dI w' db lb V (upD d)∧af (aM db) w w':=by
 have HH:=ae h;have x2:ba w db 2 (.bool d.down):=h.az.ag rfl;have x1:aF w db 1 d.b9:=h.az.ag rfl;have f1:w.frozen? ⟨db,1,none⟩=false:=h.az.free _;have f2:w.frozen? ⟨db,2,none⟩=false:=h.az.free _;have j1:af (aM db) w (w.setCell ⟨db,2,none⟩ (.bool false)):=(af.ak (aM db) w).setCell (p:=⟨db,2,none⟩) (.inl (show aM db db from rfl)) _;have j2:af (aM db) (w.setCell ⟨db,2,none⟩ (.bool false)) ((w.setCell ⟨db,2,none⟩ (.bool false)).setCell ⟨db,1,none⟩ (ah (-1))):=(af.ak (aM db) _).setCell (p:=⟨db,1,none⟩) (.inl (show aM db db from rfl)) _;have dq:=h.az.store 2 (.bool false);have y1:aF (w.setCell ⟨db,2,none⟩ (.bool false)) db 1 d.b9:=dq.ag rfl;have g1:(w.setCell ⟨db,2,none⟩ (.bool false)).frozen? ⟨db,1,none⟩=false:=dq.free _;have HX:=aH (dI ((w.setCell ⟨db,2,none⟩ (.bool false)).setCell ⟨db,1,none⟩ (ah (-1))) db lb V (upD d)∧af (aM db) w ((w.setCell ⟨db,2,none⟩ (.bool false)).setCell ⟨db,1,none⟩ (ah (-1)))) (⟨h.boxS (d':=upD d) rfl (dq.store 1 (ah (-1))) (j1.aE j2 fun k hk=>.inl hk),j1.aE j2 fun k hk=>.inl hk⟩);clear h j1 j2 dq
 go_enter Tryz.func12,Tryz.ntmps12
 go_wp2_with fail
 go_end0
 exact⟨rfl,HX.1,HX.2⟩
theorem sec_down (h:dI w db lb V d):Calls Tryz.prog 16 #[aI db] w fun e w'=>e= .returned (.bool d.down)∧w=w':=by
 have x2:ba w db 2 (.bool d.down):=h.az.ag rfl;clear h
 go_enter Tryz.func16,Tryz.ntmps16
 go_wp2_with fail;go_ret;exact⟨rfl,rfl⟩
end
end
end Go.Proofs.YtpcfhbeakecihaaGreat

namespace Go.Proofs.YtpcfhbeakecihaaGreat
open Go.RowKit Go.ChangeShapes Go.WideShapes
def ArNew (Z:ZN)(K:aZ)(c:aN)(db lb:Nat)(d:dH)(w:World)(e:Ending)(w':World):Prop:=
 ∃a:ArrA K,e= .returned (.tuple #[aI a.ab,ah 0])∧a.db=db∧a.lb=lb∧ArrB Z K c a ⟨K.s0,fun _=>none,stOpen (sr c) (c.f 3).toNat d,false,0⟩ w'∧af (fun k=>k=db∨k=lb) w w'∧(0<c.h.length→∀k,aJ a.hv k→w.heap.size≤k)
theorem ara_sn {Z:ZN}{db lb:Nat}{V V3:Nat→Value}{n0:Nat}{w:World}{d:dH}(hZ:∀i,i<64→∀k,aJ (V i) k→¬Z.N k)(hk:∀k,gN db lb V3 k→gN db lb V k∨n0≤k)(hd:dI w db lb V3 d){j k:Nat}(hj:j<64)(ho:aJ (V3 j) k)(hz:Z.N k)(hl:k<n0):False:=by
 have h3:=hd.off j hj k ho;rcases hk k (.inr (.inr ⟨j,hj,ho⟩))with e|e
 ·rcases e with e|e|⟨i,hi,e⟩
  ·exact h3.1 e
  ·exact h3.2.1 e
  ·exact hZ i hi k e hz
 ·omega
theorem ara_lo {Z:ZN}{K:aZ}{i:K.ι}{ab cb mb sb db lb bb:Nat}{hv hva lm:Value}{V:Nat→Value}{D:Int→Option gA}{c:aN}(hZ:Z.B≤db∧Z.B≤lb∧Z.B≤bb)(hp:∀k,kB K i cb mb c hv (fun _=>none) k→bb≤k)(ha:bb≤ab){k:Nat}(h:ArrW (⟨i,ab,cb,mb,sb,db,lb,hv,hva,lm,V,D⟩:ArrA K) k):Z.B≤k:=by
 rcases h with e|e|e|e|e|e
 ·exact Nat.le_trans hZ.2.2 (hp k (.inl e))
 ·rw[show k=cb from e];exact Nat.le_trans hZ.2.2 (hp cb (.inr (.inl rfl)))
 ·rw[show k=mb from e];exact Nat.le_trans hZ.2.2 (hp mb (.inr (.inr (.inl rfl))))
 ·rw[show k=ab from e];exact Nat.le_trans hZ.2.2 ha
 ·rw[show k=db from e];exact hZ.1
 ·rw[show k=lb from e];exact hZ.2.1
section
theorem ara_new {Z:ZN}{KO:aZ}{c:aN}(hK:KO.Made c 3)(hT:KO.LK)(hP:dJ c){A:Option Addr}{n cp:Nat}{db lb:Nat}{V:Nat→Value}{d:dH}(w:World)(bI:aL w A n cp c.h)
 (h:dI w db lb V d) (f0:d.down=false) (f1:d.b9= -1) (hb:∀i,sm (d.sec i)) (hZ:∀i,i<64→∀k,aJ (V i) k→¬Z.N k) (hZ2:Z.B≤db∧Z.B≤lb∧Z.B≤w.heap.size) (hZ3:∀k,Z.N k→k<w.heap.size):
 Calls Tryz.prog 10 #[.agg (aj c (.slice A n cp)),aI db] w (ArNew Z KO c db lb d w):=by
 have HZ:=aH ((∀i,i<64→∀k,aJ (V i) k→¬Z.N k)∧(Z.B≤db∧Z.B≤lb∧Z.B≤w.heap.size)∧(∀k,Z.N k→k<w.heap.size)) (⟨hZ,hZ2,hZ3⟩);have HTY:=ae hT;have F5:=aH (db<w.heap.size∧lb<w.heap.size) (⟨h.lt (.inl rfl),h.lt (.inr (.inl rfl))⟩);have HD:=ae h;have HP:=ae hP;have HF:=aH ((d.down=false∧d.b9= -1)∧(∀i,sm (d.sec i))) (⟨⟨f0,f1⟩,hb⟩);have HI:=ae bI;have nP:=ae (fun w bI=>r8 (A:=A) (n:=n) (cp:=cp) hK hP (by decide:1≤3) (by decide:3≤3) w bI);clear h f0 f1 hb bI hP hZ hZ2 hZ3 hT
 go_enter Tryz.func10,Tryz.ntmps10
 go_upto_region 1 with fail;have ku:=(af.ak aA w).alloc (.cells (aj c (.slice A n cp)) 25);have cQ:=ae (Box.fresh w 25 (aj c (.slice A n cp)));have bw:=ae ku;have HR:=ae (nP _ (HI.keep ku));change Code.wp _ _ _ _ (w.alloc (.cells (aj c (.slice A n cp)) 25));clear ku;generalize w.alloc (.cells (aj c (.slice A n cp)) 25)=W1 at *;generalize BX:w.heap.size=bb at *;have MH:=ae BX;clear BX;go_upto_region 2 with(first|(refine pL (aj c (.slice A n cp)) cQ Tryz.underlying25 ?_)|(go_at_call 29;refine HR.mono ?_;rintro e W2 ⟨i,cb,mb,ri,rfl,uf,FC,xv,AF,xu,bd⟩));have eC:=ae (bd.az cQ id);have bR:=ae (bw.trans bd);have F7:=ae uf;have Dl:=aH (∀k,kB KO i cb mb c ri (fun _=>none) k→w.heap.size≤k∧k<W2.heap.size) (by
  have hsz:=bw.size;intro k hk;have h3:=uf.Em hk;rcases hk with hk|hk|hk|⟨_,_,_,hk,_⟩|hk
  ·have:=FC k hk;exact⟨by omega,h3⟩
  ·exact⟨by omega,h3⟩
  ·exact⟨by omega,h3⟩
  ·cases hk
  ·have:=xu hk.1 k hk.2;exact⟨by omega,h3⟩)
 have PG:=ae ((HD.keep bw).keep bd);clear bd cQ bw HR uf FC xv AF xu nP;have x0:aF W2 bb 0 (c.f 0):=eC.ag (aB c _ (by decide));have x1:aF W2 bb 1 (c.f 1):=eC.ag (aB c _ (by decide));have x2:aF W2 bb 2 (c.f 2):=eC.ag (aB c _ (by decide));have x3:aF W2 bb 3 (c.f 3):=eC.ag (aB c _ (by decide));have Md:=ae (sto_open (sh:=sr c) (size:=(c.f 3).toNat) (xK HP) (by show c.f 3=_;have:=HP.p3;omega) PG HF.1.1 HF.1.2 HF.2);go_upto_region 5 with(go_at_call 30;refine Md.mono ?_;rintro e W3 ⟨sb,V3,rfl,wZ,DA,hkk3,bQ⟩);have HOX:=ae bQ;have HKK:=ae hkk3;have HDX:=aH (db<bb∧lb<bb) (by have h1:=F5.out;have h2:=MH.out;omega);have kj:=ae (bQ.az eC fun e=>by have h1:=HDX.out;have e:bb=db∨bb=lb:=e;omega);have Mw:=aH (∀k,kB KO i cb mb c ri (fun _=>none) k→¬(k=db∨k=lb)) (fun k hk e=>by have h1:=Dl.out k hk;have h2:=HDX.out;have h4:=MH.out;omega);have IK:=ae (F7.off bQ (fun k hk=>Mw k (.inl hk)) (Mw cb (.inr (.inl rfl))) (Mw mb (.inr (.inr (.inl rfl)))) (fun b l v hb=>by cases hb) fun h0 k hk=>Mw k (.inr (.inr (.inr (.inr ⟨h0,hk⟩)))));have uj:=ae wZ;have b7:=ae ((bR.mono (S':=fun k=>k=db∨k=lb) fun _ h=>h.elim).aE bQ fun k hk=>.inl hk);have FT:=aH (W2.heap.size≤sb∧sb<W3.heap.size) (⟨DA,wZ.az.lt⟩);clear bQ wZ DA Md x0 x1 x2 x3 eC F7;have nM:= @run_makeMap Tryz.prog;go_upto_region 7 with fail;go_wp2_with (first|(refine pL (aj c (.slice A n cp)) kj Tryz.underlying25 ?_)|(refine cj rfl _ _ rfl [(0,.agg (aj c (.slice A n cp))),(1,aI sb),(2,aI cb),(5,.map (some W3.heap.size))] _ (by simp[Act.eval]) (tI c A n cp sb cb W3.heap.size) ?_));go_ret2;have Ib:=(af.ak aA W3).alloc (.map #[] 0);have jY:=Box.fresh (W3.alloc (.map #[] 0)) 77 (iG c (.slice A n cp) sb cb false 0 (.map (some W3.heap.size)));have sj:=(af.ak aA (W3.alloc (.map #[] 0))).alloc (.cells (iG c (.slice A n cp) sb cb false 0 (.map (some W3.heap.size))) 77);have hz:(W3.alloc (.map #[] 0)).heap.size=W3.heap.size+1:=by simp
 rw[hz]at jY;have Nj:=b7.size;have Qu:=(uj.keep Ib).keep sj;refine⟨⟨i,W3.heap.size+1,cb,mb,sb,db,lb,ri,.slice A n cp,.map (some W3.heap.size),V3,fun _=>none⟩,by simp,rfl,rfl,?_,(b7.aE Ib fun _ h=>h.elim).aE sj fun _ h=>h.elim,fun h0 k hk=>(Dl k (.inr (.inr (.inr (.inr ⟨h0,hk⟩))))).1⟩;exact {az:=jY,cch:=(IK.keep Ib).keep sj,dd:=fun b=>rfl,dnZq:=fun b l v hb=>(by cases hb),sto:=Qu,snZq:=fun j hj k hk hz=>ara_sn HZ.1 HKK Qu.B1 hj hk hz (by have h1:=HZ.2.2 k hz;have h2:=bR.size;have h3:=MH.out;omega),bI:=fun h0 k hk=>(by have h1:=Dl.out k (.inr (.inr (.inr (.inr ⟨h0,hk⟩))));have h2:=HDX.out;have h3:=FT.out;have h4:=MH.out;show k≠W3.heap.size+1∧k≠db∧k≠lb;omega),lo:=fun k hk=>ara_lo (bb:=bb) HZ.2.1 (fun k hk=>by have h1:=(Dl k hk).1;have h4:=MH.out;omega) (by have h1:=MH.out;omega) hk,nlt:=fun k hk=>(by have h1:=HZ.2.2 k hk;have h2:=MH.out;have h3:=sj.size;have h4:=Ib.size;omega),fu:=HTY.out,EY:=fun b l hb=>(by cases hb)}
end
end Go.Proofs.YtpcfhbeakecihaaGreat

namespace Go.Proofs.YtpcfhbeakecihaaGreat
open Go.RowKit Go.ChangeShapes Go.WideShapes
section
variable {K:aZ}{c:aN}{M:AMZq K.σ}{b wB:Int}{t:List Int}
theorem aPut_age (i:K.ι):K.sp.sk (aPutM K.sp c M b t wB).s≤K.sp.sk M.s+1∧(aPutM K.sp c M b t wB).reads=M.reads:=by
 unfold aPutM
 split
 ·exact⟨Nat.le_succ _,rfl⟩
 ·exact⟨(K.oc i).AU _ _,rfl⟩
theorem aDrop_age (i:K.ι):K.sp.sk (aDropM K.sp M b).s≤K.sp.sk M.s∧(aDropM K.sp M b).reads=M.reads:=by
 unfold aDropM
 split
 ·exact⟨(K.oc i).AR _ _,rfl⟩
 ·exact⟨Nat.le_refl _,rfl⟩
theorem aKeep_age (i:K.ι):K.sp.sk (aKeepM K.sp c M b t wB).s≤K.sp.sk M.s+1∧(aKeepM K.sp c M b t wB).reads=M.reads:=by
 unfold aKeepM
 split
 ·exact aPut_age i
 ·have:=aDrop_age (M:=M) (b:=b) i;exact⟨by omega,this.2⟩
theorem aRead_age (i:K.ι):K.sp.sk (aReadM K.sp c M b wB).s≤K.sp.sk M.s+2∧(aReadM K.sp c M b wB).reads≤M.reads+1:=by
 unfold aReadM
 split
 ·have h1:=(K.oc i).AQ M.s b
  split
  ·rename_i t _ _
   have h2:=aKeep_age (c:=c) (M:=aHit K.sp M b) (b:=b) (t:=t) (wB:=wB) i;have h3:K.sp.sk (aHit K.sp M b).s=K.sp.sk (K.sp.use M.s b):=rfl;have h4:(aHit K.sp M b).reads=M.reads:=rfl;omega
  ·have h3:K.sp.sk (aHit K.sp M b).s=K.sp.sk (K.sp.use M.s b):=rfl;have h4:(aHit K.sp M b).reads=M.reads:=rfl;omega
 ·split
  ·have h2:=aKeep_age (c:=c) (M:=aMiss M) (b:=b) (t:=(aSto c M b).2) (wB:=wB) i;have h3:K.sp.sk (aMiss M).s=K.sp.sk M.s:=rfl;have h4:(aMiss M).reads=M.reads+1:=rfl;omega
  ·omega
theorem aWrite_age (i:K.ι)(sh:Nat→Int)(m:ec):K.sp.sk (aWriteM K.sp c sh M m t).s≤K.sp.sk M.s+2∧(aWriteM K.sp c sh M m t).reads≤M.reads+1:=by
 unfold aWriteM
 split
 ·exact⟨Nat.le_add_right _ 2,Nat.le_succ _⟩
 ·split
  ·exact⟨Nat.le_add_right _ 2,Nat.le_succ _⟩
  ·split
   ·have h2:=aKeep_age (c:=c) (M:={M with d:=(aWZq c sh M m t).1}) (b:=m.f 5) (t:=t) (wB:=m.f 6) i;have h3:K.sp.sk ({M with d:=(aWZq c sh M m t).1}:AMZq K.σ).s=K.sp.sk M.s:=rfl;have h4:({M with d:=(aWZq c sh M m t).1}:AMZq K.σ).reads=M.reads:=rfl;omega
   ·exact⟨Nat.le_add_right _ 2,Nat.le_succ _⟩
theorem aHear_age (i:K.ι)(sh:Nat→Int)(m:ec):K.sp.sk (aHearM K.sp c sh M m t).s≤K.sp.sk M.s+2∧(aHearM K.sp c sh M m t).reads≤M.reads+1:=by
 unfold aHearM
 split
 ·omega
 ·split
  ·exact aRead_age i
  ·split
   ·exact aWrite_age i sh m
   ·split
    ·split
     ·have:=aPut_age (c:=c) (M:=M) (b:=m.f 5) (t:=t) (wB:=m.f 6) i;omega
     ·omega
    ·split
     ·have:=aDrop_age (M:=M) (b:=m.f 5) i;omega
     ·omega
end
theorem ATru.b9 {σ:Type}{c:aN}{M:AMZq σ}(h:ATru c M)(n:Int):ATru c {M with d:=fuseD M.d n}:=by
 have hs:(fuseD M.d n).sec=M.d.sec∧(fuseD M.d n).down=M.d.down:=by unfold fuseD;split<;>exact⟨rfl,rfl⟩
 rcases h with h|⟨h1,h2⟩
 ·exact .inl h
 ·refine .inr ⟨hs.2.trans h1,fun b l hb=>?_⟩;obtain⟨q1,q2,q3⟩:=h2 b l hb;refine⟨q1,q2,?_⟩
  show l=(eH _ ((fuseD M.d n).sec _)).2
  rw[hs.1];exact q3
section
variable {Z:ZN}{K:aZ}{c:aN}{a:ArrA K}{M:AMZq K.σ}{w:World}
theorem ara_fuse (h:ArrB Z K c a M w)(n:Int)(hn:n≤9223372036854775807):Calls Tryz.prog 11 #[aI a.db,ah n] w fun e w'=>e= .returned (.tuple #[])∧∃V',ArrB Z K c {a with V:=V'} {M with d:=fuseD M.d n} w'∧af (ArrW a) w w':=by
 refine(sec_fuse h.sto.B1 n).mono fun e w' ⟨he,hd,ho⟩=>⟨he,?_⟩
 have hp:StoP a.sb a.db a.lb a.V (sr c) (fuseD M.d n) w w':=⟨a.V,{az:=ho.az h.sto.az (fun e=>h.sto.off (.inl (show a.sb=a.db from e))),B1:=hd,off:=h.sto.off,zW:=h.sto.zW,f0:=(by have:=h.sto.f0;unfold fuseD;split;exact this;exact Int.le_max_right ..),f1:=(by have:=h.sto.f1;unfold fuseD;split;exact this;exact Int.max_le.2 ⟨hn,by decide⟩),EY:=fun i=>(by have:=h.sto.EY i;unfold fuseD;split<;>exact this)},fun k hk=>.inl hk,ho.mono fun k hk=>.inl (.inl hk)⟩;obtain⟨V',h1⟩:=h.diskS hp;exact⟨V',h1,ho.mono fun k hk=>.inl (by rw[show k=a.db from hk];exact .inr (.inr (.inr (.inr (.inl rfl)))))⟩
end
structure AtI {c:aN}{hP:dJ c}{hk:2<3}(cfb:Nat)(cv:Value)(k:Nat)(w:World)(a:ArrA (jW c 2 hP hk))(M:AMZq (jW c 2 hP hk).σ)(wr:World):Prop where
 b:ArrB ⟨w.heap.size,fun _=>False⟩ (jW c 2 hP hk) c a M wr
 sk:(jW c 2 hP hk).sp.sk M.s≤2*k
 rd:M.reads≤k
 cf:Box wr cfb 25 (aj c cv)
 o:af aA w wr
section
variable {c:aN}{hP:dJ c}{hk:2<3}{cfb k:Nat}{cv:Value}{w wr w':World}{a:ArrA (jW c 2 hP hk)}{M M':AMZq (jW c 2 hP hk).σ}
theorem AtI.keep (h:AtI cfb cv k w a M wr)(ho:af aA wr w'):AtI cfb cv k w a M w':=⟨h.b.keep ho,h.sk,h.rd,ho.az h.cf id,h.o.trans ho⟩
theorem AtI.next (h:AtI cfb cv k w a M wr):AtI cfb cv (k+1) w a M wr:=⟨h.b,by have:=h.sk;omega,by have:=h.rd;omega,h.cf,h.o⟩
theorem AtI.p6 (h:AtI cfb cv k w a M wr){D':Int→Option gA}{V':Nat→Value}(hb:ArrB ⟨w.heap.size,fun _=>False⟩ (jW c 2 hP hk) c {a with D:=D',V:=V'} M' w')(ho:af (ArrW a) wr w')(h1:(jW c 2 hP hk).sp.sk M'.s≤(jW c 2 hP hk).sp.sk M.s+2)(h2:M'.reads≤M.reads+1):AtI cfb cv (k+1) w {a with D:=D',V:=V'} M' w':=
 ⟨hb,by have:=h.sk;omega,by have:=h.rd;omega,ho.az h.cf fun e=>absurd (h.b.M8 e h.cf) (by decide),h.o.aE ho fun k hk=>.inr (h.b.lo k hk)⟩
end
theorem actY_one (a:lG)(A:Option Addr)(n c:Nat):((DT a (.slice A n c)).all fun x=>x.oneCell')=true:=by simp[DT,Value.oneCell']
def zAcY:Array Value:=#[ah 0,ah 0,ah 0,ah 0,ah 0,ah 0,ah 0,ah 0,ah 0,ah 0,.bool false,ey]
def AhRel (n:Nat)(Lc:World)(iv:Value)(wr:World):Prop:=∃j:Nat,j≤n∧iv=ah j∧af aA Lc wr
def zMsR:Array Value:=#[ah 0,ah 0,ah 0,ah 0,ah 0,ah 0,ah 0,ah 0,ah 0,.bool false,ey]
section
theorem ara_new_no {c:aN}(hP:¬dJ c){A:Option Addr}{n cp:Nat}{db:Nat}(w:World)(bI:aL w A n cp c.h):
 Calls Tryz.prog 10 #[.agg (aj c (.slice A n cp)),aI db] w fun e w'=>e= .returned (.tuple #[.pointer none,ah 6])∧af aA w w':=by
 have HI:=ae bI;have HN:=ae (fun w bI=>BJ hP 3 (A:=A) (n:=n) (cp:=cp) w bI);clear bI
 go_enter Tryz.func10,Tryz.ntmps10
 go_upto_region 1 with fail;have cQ:=ae (Box.fresh w 25 (aj c (.slice A n cp)));have bw:=ae ((af.ak aA w).alloc (.cells (aj c (.slice A n cp)) 25));have HR:=ae (HN _ (HI.keep bw));change Code.wp _ _ _ _ (w.alloc (.cells (aj c (.slice A n cp)) 25));generalize w.alloc (.cells (aj c (.slice A n cp)) 25)=W1 at *;generalize w.heap.size=bb at *;go_wp2_with (first|(refine pL (aj c (.slice A n cp)) cQ Tryz.underlying25 ?_)|(go_at_call 29;refine HR.mono ?_;rintro e W2 ⟨rfl,bd⟩));go_ret2;exact⟨rfl,bw.trans bd⟩
end
end Go.Proofs.YtpcfhbeakecihaaGreat

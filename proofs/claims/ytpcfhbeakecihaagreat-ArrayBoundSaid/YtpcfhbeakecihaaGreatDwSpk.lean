/- texts Spk -/
import Derived.Test.YtpcfhbeakecihaaGreatDwSpj
import Derived.Test.YtpcfhbeakecihaaGreatM35
import Derived.Test.YtpcfhbeakecihaaGreatM3
import Derived.Test.YtpcfhbeakecihaaGreatM2
import Derived.Test.YtpcfhbeakecihaaGreatM1
import Derived.Test.YtpcfhbeakecihaaGreatM4
import Derived.Test.YtpcfhbeakecihaaGreatM5
set_option linter.all false
set_option maxHeartbeats 20000000
set_option maxRecDepth 100000
namespace Go.Proofs.YtpcfhbeakecihaaGreat
open Go.RowKit Go.ChangeShapes Go.WideShapes
theorem textR_sub {m:Nat}{b:List Int}{p:Nat}{t:List Int}{q:Nat}(h:de m b p= .ok (t,q)):∃i n,t=(b.drop i).take n:=by
 unfold de da at h
 cases hn:eF b p with
 |error x=>rw[hn]at h;cases h
 |ok y=>
  obtain⟨n,i⟩:=y;rw[hn]at h;simp only at h
  split at h
  ·cases h
  ·unfold lP at h
   split at h
   ·cases h
   ·cases h
    exact⟨_,_,rfl⟩
theorem sTxt_isB {m:Nat}{b:List Int}{p:Nat}{ok:Bool}(hb:sm b):sm (lz m b p ok).1:=by
 unfold lz
 split
 ·cases ht:de m b p with
  |error x=>exact fun x hx=>by cases hx
  |ok y=>
   obtain⟨t,q⟩:=y;obtain⟨i,n,e⟩:=textR_sub ht;intro x hx;have hx:x∈t:=hx;rw[e]at hx;exact hb x (List.mem_of_mem_drop (List.mem_of_mem_take hx))
 ·exact fun x hx=>by cases hx
theorem sTxt_len {m:Nat}{b:List Int}{p:Nat}{ok:Bool}(h:(lz m b p ok).2=true):(lz m b p ok).1.length=m:=by
 unfold lz at h ⊢
 split at h
 ·rename_i ho
  rw[if_pos ho]
  cases ht:de m b p with
  |error x=>rw[ht]at h;cases h
  |ok y=>
   obtain⟨t,q⟩:=y;rw[ht]at h;simp only[Bool.and_eq_true,beq_iff_eq]at h
   show t.length=m
   omega
 ·cases h
section
variable {w:World}{sb db lb:Nat}{V:Nat→Value}{sh:Nat→Int}{d:dH}
theorem sto_open {size:Nat}(hp:zh sh)(hsz:sh 1=size)(h:dI w db lb V d)(f0:d.down=false)(f1:d.b9= -1)(hb:∀i,sm (d.sec i)):
 Calls Tryz.prog 30 #[.pointer (some ⟨db,0,none⟩),.agg (dY sh)] w fun e w'=>∃sb V',e= .returned (.tuple #[.pointer (some ⟨sb,0,none⟩),.int .i64 0])∧gF w' sb db lb V' sh (stOpen sh size d)∧w.heap.size≤sb∧(∀k,gN db lb V' k→gN db lb V k∨w.heap.size≤k)∧af (fun k=>k=db∨k=lb) w w':=by
 have HD:=ae h;have HP:=ae hp;have HF:=aH ((d.down=false∧d.b9= -1)∧(∀i,sm (d.sec i))∧sh 1=size) (⟨⟨f0,f1⟩,hb,hsz⟩);have hm:=hp.mul (c:=0) (Int.le_refl _) (by have:=hp.c0;omega);have Ot:1+sh 0+sh 2*sh 3≤64:=by have:=hp.b1;omega
 have HR:=ae (fun w=>sN hp w);have Pd:=ae (fun w=>pf hp w);clear h hp f0 f1 hb hsz hm
 go_enter Tryz.func30,Tryz.ntmps30
 go_upto_region 3 with fail;have ku:=(af.ak aA w).alloc (.cells (dY sh) 74);have Mb:=ae (Box.fresh w 74 (dY sh));have bw:=ae ku;have zn:=ae (HD.keep ku);change Code.wp _ _ _ _ (w.alloc (.cells (dY sh) 74));clear ku;generalize w.alloc (.cells (dY sh) 74)=W1 at *;obtain⟨pb,Ad⟩:∃pb,pb=w.heap.size:=⟨_,rfl⟩;rw[←Ad]at Mb ⊢;have FW:=ae Ad;clear Ad;refine kb (fun w':World=>Box w' pb 74 (dY sh)∧dI w' db lb V d∧af aA w w') 10 ?_ ?_
 ·first|exact BZ|exact xd|exact aX|exact⟨Mb.drew,zn.keep ((af.ak aA _).drew),bw.drew⟩
 intro aX;refine bj (i:=0) (v:=.agg (dY sh)) (by kernel_rfl) rfl (by kernel_rfl) (fun _ _ _ h=>h) (yieldsIf_load_mid (by rfl) 74 _ rfl pb 0 rfl (dY sh).toList _ (fun w hw j v hj=>by rw[Nat.zero_add];exact hw.1.ag (by rw[←Array.getElem?_toList];exact hj)) Tryz.underlying74 rfl (by kernel_rfl)) (by assumption) ?_;refine sd ?_;refine lh 1 fun K hK=>?_
 go_simp;refine(HR _).mono ?_;rintro e W3 ⟨rfl,bQ⟩;have xd:Box W3 pb 74 (dY sh)∧dI W3 db lb V d∧af aA w W3:=⟨bQ.az aX.1 id,aX.2.1.keep bQ,aX.2.2.trans bQ⟩;clear bQ;refine lj hK ?_ fun aX=>?_
 ·first|exact BZ|exact xd|exact aX|exact⟨Mb.drew,zn.keep ((af.ak aA _).drew),bw.drew⟩
 clear hK;refine eZ [2,3,4] ?_;refine bj (i:=6) (v:=.agg (dY sh)) (by kernel_rfl) rfl (by kernel_rfl) (fun _ _ _ h=>h) (yieldsIf_load_mid (by rfl) 74 _ rfl pb 0 rfl (dY sh).toList _ (fun w hw j v hj=>by rw[Nat.zero_add];exact hw.1.ag (by rw[←Array.getElem?_toList];exact hj)) Tryz.underlying74 rfl (by kernel_rfl)) (by assumption) ?_;refine sd ?_;refine lh 5 fun K hK=>?_
 go_simp;refine(xO aX.2.1).mono ?_;rintro e W4 ⟨rfl,rfl⟩;refine lj hK ?_ fun aX=>?_
 ·first|exact BZ|exact xd|exact aX|exact⟨Mb.drew,zn.keep ((af.ak aA _).drew),bw.drew⟩
 clear hK;refine lh 7 fun K hK=>?_
 go_simp;refine(Pd _).mono ?_;rintro e W5 ⟨rfl,eD⟩;have BZ:Box W5 pb 74 (dY sh)∧dI W5 db lb V d∧af aA w W5:=⟨eD.az aX.1 id,aX.2.1.keep eD,aX.2.2.trans eD⟩;clear eD;refine lj hK ?_ fun aX=>?_
 ·first|exact BZ|exact xd|exact aX|exact⟨Mb.drew,zn.keep ((af.ak aA _).drew),bw.drew⟩
 clear hK;refine eZ [8,9] ?_;refine jz ?_;have HS:=ae aX;clear aX xd BZ;go_upto_region 6 with(first|(refine wpList_load_row rfl 74 _ rfl pb rfl 74 (dY sh) (0,0) _ HS.1 Tryz.underlying74 rfl (by kernel_rfl) ?_)|(refine cj rfl _ _ rfl [(0,.agg (dY sh)),(1,.pointer (some ⟨db,0,none⟩))] _ (by simp[Act.eval]) (tG sh db) ?_));have sj:=(af.ak aA W5).alloc (.cells (p7 sh db) 108);have F9:=ae (Box.fresh W5 108 (p7 sh db));have lO:=ae (HS.2.2.trans sj);have MB:=ae (HS.2.1.keep sj);have Py:=aH (∀k,gN db lb V k→k<W5.heap.size) (fun k hk=>HS.2.1.lt hk);have O5:=aH (w.heap.size≤W5.heap.size) (HS.2.2.size);change Code.wp _ _ _ _ (W5.alloc (.cells (p7 sh db) 108));clear sj HS;generalize W5.alloc (.cells (p7 sh db) 108)=W6 at *;generalize W5.heap.size=sb at *;have za:gF W6 sb db lb V sh d:=
  {az:=F9.out,B1:=MB.out,off:=fun hk=>by have:=Py.out _ hk;omega,zW:=HP.out,f0:=by rw[HF.1.2];decide,f1:=by rw[HF.1.2];decide,EY:=HF.2.1}
 have Io:=ae za;have HJ:=ae (sto_journal HF.2.2 za);clear za F9 MB Ot;unfold JnP at HJ;have Py:=aH (w.heap.size≤sb) (O5);have HSBL:=ae Io.az.lt;go_upto_region 7 with(first|(go_at_call 57;refine HJ.mono ?_;rintro e W7 ⟨tvZq,rfl,hr7,pW,KL⟩;obtain⟨At,ctZq,et,_,_⟩:=hr7.shape;subst et;rw[cE]at hr7 KL;have HR7:=ae hr7;have zk:=ae pW;have Dr:=ae KL;clear hr7 pW KL)|(refine wpList_store_row rfl 110 _ _ rfl W7.heap.size (Cx (jrW (d.sec 0)) (.slice At (jrT size (d.sec 0)).1.length ctZq)) rfl rfl 110 #[.int .i64 0,.int .i64 0,.int .i64 0,.int .i64 0,.int .i64 0,.slice none 0 0] (Box.fresh W7 _ _) (by kernel_rfl) rfl (by simp[Cx,Value.oneCell']) ?_));clear HJ;have al8:=(af.ak aA W7).alloc (.cells #[.int .i64 0,.int .i64 0,.int .i64 0,.int .i64 0,.int .i64 0,.slice none 0 0] 110);have hb8:=(Box.fresh W7 110 #[.int .i64 0,.int .i64 0,.int .i64 0,.int .i64 0,.int .i64 0,.slice none 0 0]).aK (Cx (jrW (d.sec 0)) (.slice At (jrT size (d.sec 0)).1.length ctZq));have HO8:=ae (al8.aK (.inr (Nat.le_refl _)) (Cx (jrW (d.sec 0)) (.slice At (jrT size (d.sec 0)).1.length ctZq)));have HW8:=ae hb8;clear al8 hb8;generalize(W7.alloc (.cells #[.int .i64 0,.int .i64 0,.int .i64 0,.int .i64 0,.int .i64 0,.slice none 0 0] 110)).setRow W7.heap.size (Cx (jrW (d.sec 0)) (.slice At (jrT size (d.sec 0)).1.length ctZq))=W8 at *;have HS8:=ae ((Io.keep zk).keep HO8);have HO9:=ae ((lO.trans zk).trans HO8);have HDT:=ae (HR7.ao HO8 fun _ _=>id);generalize W7.heap.size=wb at *
 cases hj:jrB sh size (d.sec 0)with
 |false=>
  have HE:=aH (stOpen sh size d=d) (by unfold stOpen;rw[hj];rfl);clear hj;go_wp2_with fail;go_ret2;exact⟨sb,V,rfl,by rw[HE.out];exact HS8,Py,fun k hk=>.inl hk,HO9.mono fun k hk=>hk.elim⟩
 |true=>
  have HE:=aH (stOpen sh size d=(stDoes sh d (jrW (d.sec 0)) (jrT size (d.sec 0)).1 (sVal (d.sec 0) 5)).1) (by unfold stOpen;rw[hj];rfl);have hq:=hj;unfold jrB at hq;simp only[Bool.and_eq_true,decide_eq_true_eq]at hq;obtain⟨⟨⟨⟨q1,q2⟩,q3⟩,q4⟩,q5⟩:=hq;have hlen:=sTxt_len q1;have CL:=HF.2.2;have hs16:=HP.s1;have HL:=aH ((jrT size (d.sec 0)).1.length≤16) (by show(lz size (d.sec 0) _ _).1.length≤16;rw[hlen];omega);have hdo:=sto_does (wr:=jrW (d.sec 0)) (t:=(jrT size (d.sec 0)).1) HS8 q2 ⟨by show 0≤((sVal (d.sec 0) 4:Nat):Int);omega,q3⟩ (HDT.nR (by have:=HL.out;omega)) HL (sTxt_isB (HF.2.1 0)) q5;rw[(stDoes_free HF.1.1 HF.1.2 _).1]at hdo;have HDO:=ae hdo;clear hdo q1 q2 q3 q4 q5 hlen CL hs16 hj;go_wp2_with (first|(refine pL (Cx (jrW (d.sec 0)) (.slice At (jrT size (d.sec 0)).1.length ctZq)) HW8 Tryz.underlying110 ?_)|(go_at_call 58;refine HDO.mono ?_;rintro e W9 ⟨rfl,hp⟩));go_ret2;obtain⟨V2,h2,tQ,bd⟩:=hp;exact⟨sb,V2,rfl,by rw[HE.out];exact h2,Py,fun k hk=>(tQ k hk).elim .inl fun h=>.inr (Nat.le_trans HO9.size h),(HO9.mono fun k hk=>hk.elim).aE bd fun k hk=>.inl hk⟩
end
end Go.Proofs.YtpcfhbeakecihaaGreat

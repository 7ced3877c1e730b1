/- texts Arh -/
import Derived.Test.YtpcfhbeakecihaaGreatDwArf
import Derived.Test.YtpcfhbeakecihaaGreatM3
import Derived.Test.YtpcfhbeakecihaaGreatM2
import Derived.Test.YtpcfhbeakecihaaGreatM1
import Derived.Test.YtpcfhbeakecihaaGreatM4
import Derived.Test.YtpcfhbeakecihaaGreatM5
set_option linter.all false
set_option maxHeartbeats 20000000
set_option maxRecDepth 100000
namespace Go.Proofs.YtpcfhbeakecihaaGreat
open Go.RowKit Go.ChangeShapes Go.WideShapes
theorem blkOf_isB {size:Nat}{b:List Int}(h:sm b):sm (eH size b).2:=by
 unfold eH
 split
 ·exact sTxt_isB h
 ·intro x hx;have:=List.eq_of_mem_replicate hx;omega
theorem aPutT_len {σ:Type}{sp:oz σ}{c:aN}{M:AMZq σ}{b wB:Int}{t:List Int}:(aPutT sp c M b t wB).length≤1:=by
 unfold aPutT
 split
 ·exact Nat.zero_le _
 ·split
  ·exact Nat.le_refl _
  ·exact Nat.zero_le _
theorem aKeepT_len {σ:Type}{sp:oz σ}{c:aN}{M:AMZq σ}{b wB:Int}{t:List Int}:(aKeepT sp c M b t wB).length≤1:=by
 unfold aKeepT
 split
 ·exact aPutT_len
 ·exact Nat.zero_le _
section
section
variable {Z:ZN}{K:aZ}{c:aN}{a:ArrA K}{M:AMZq K.σ}{w w':World}{m:ec}{A:Option Addr}{n cp:Nat}
theorem ArrB.miss (h:ArrB Z K c a M w)(ho:af (aM a.ab) w (w.setCell ⟨a.ab,20,none⟩ (ah ((M.reads:Int)+1)))):ArrB Z K c a (aMiss M) (w.setCell ⟨a.ab,20,none⟩ (ah ((M.reads:Int)+1))):=by
 have jY:Box (w.setCell ⟨a.ab,20,none⟩ (ah ((M.reads:Int)+1))) a.ab 77 (iG c a.hva a.sb a.cb M.down ((M.reads+1:Nat):Int) a.lm):=by
  have:=h.az.store 20 (ah ((M.reads:Int)+1));exact this
 have hne:∀k t cs,Box w k t cs→t≠77→k≠a.ab:=fun k t cs hb ht e=>by rw[e]at hb;exact ht (hb.same h.az).1
 have hso:gF (w.setCell ⟨a.ab,20,none⟩ (ah ((M.reads:Int)+1))) a.sb a.db a.lb a.V (sr c) M.d:=h.sto.ao ho fun k hk=>by
  rcases hk with e|e|e|⟨i,hi,e⟩
  ·rw[e];exact hne _ _ _ h.sto.az (by decide)
  ·rw[e];exact hne _ _ _ h.sto.B1.az (by decide)
  ·rw[e];exact hne _ _ _ h.sto.B1.row (by decide)
  ·obtain⟨cs,hx⟩:=h.sto.B1.u8 i hi k e;exact hne _ _ _ hx (by decide)
 exact {az:=jY,cch:=h.cch.off ho (fun k hk e=>by have e:k=a.ab:=e;subst e;exact absurd (h.fu _ _ _ h.cch.ord _ hk _ _ h.az) (by decide)) (hne _ _ _ h.cch.az (by decide)) (fun e=>h.cch.map.ne h.az (show a.mb=a.ab from e).symm) (fun b l v hb k hk=>by obtain⟨cs,hx⟩:=(h.cch.kg b l v hb).row.2 k hk;exact hne _ _ _ hx (by decide)) fun h0 k hk=>(h.bI h0 k hk).1,dd:=h.dd,dnZq:=h.dnZq,sto:=hso,snZq:=h.snZq,bI:=h.bI,lo:=h.lo,nlt:=fun k hk=>Nat.lt_of_lt_of_le (h.nlt k hk) ho.size,fu:=h.fu,EY:=h.EY}
theorem read_at (h:ArrB Z K c a M w){b:Int}(hb:0≤b∧b<c.f 2):
 Calls Tryz.prog 31 #[aI a.sb,ah b] w fun e w'=>∃v,e= .returned (.tuple #[v,ah (aSto c M b).1,ah 0])∧Row 5 w' v (bytes (aSto c M b).2)∧af aA w w'∧∀k,aJ v k→w.heap.size≤k:=by
 obtain⟨k,rfl⟩:=Int.eq_ofNat_of_zero_le hb.1;have hp:=h.right.p3;exact vz (sh:=sr c) (b:=k) (size:=(c.f 3).toNat) hb.2 (by show c.f 3=_;omega) h.sto
theorem ara_drop (h:ArrB Z K c a M w):
 Calls Tryz.prog 36 #[aI a.ab,.agg (bc m (.slice A n cp))] w (TelP Z K c a (aDropM K.sp M (m.f 5)) [] w):=by
 have HH:=ae h;clear h
 go_enter Tryz.func36,Tryz.ntmps36
 go_upto_region 1 with fail;have ho:=(af.ak aA w).alloc (.cells (bc m (.slice A n cp)) 37);have HQ:=ae (Box.fresh w 37 (bc m (.slice A n cp)));have bw:=ae ho;have H1:=ae (HH.keep ho);change Code.wp _ _ _ _ (w.alloc (.cells (bc m (.slice A n cp)) 37));clear ho;generalize w.alloc (.cells (bc m (.slice A n cp)) 37)=W1 at *;generalize Kd:w.heap.size=qbZq at *;have HQB:=ae Kd;clear Kd;have d18:ba W1.drew a.ab 18 (aI a.cb):=H1.az.ag rfl;have d5:aF W1.drew qbZq 5 (m.f 5):=HQ.ag rfl;have HD:=ae (ara_dropc (H1.keep ((af.ak aA W1).drew)) (m.f 5));go_upto_region 1 with fail;refine kb (fun w':World=>ba w' a.ab 18 (aI a.cb)∧aF w' qbZq 5 (m.f 5)) 6 ?_ ?_
 ·exact⟨d18,d5⟩
 intro aX;refine eZ [0,1,2,3,4,5] ?_;refine jz ?_;clear aX d18 d5;go_wp2_with (go_at_call 67;refine HD.mono ?_;rintro e w2 ⟨⟨u,rfl⟩,hp⟩);go_ret;exact⟨_,rfl,dh.nil _ _ _,hp.back bw.drew⟩
end
variable {Z:ZN}{c:aN}{hP:dJ c}{hk:2<3}{a:ArrA (jW c 2 hP hk)}{M:AMZq (jW c 2 hP hk).σ}{w:World}{m:ec}{A:Option Addr}{n cp:Nat}{t:List Int}
theorem ara_demote (h:ArrB Z (jW c 2 hP hk) c a M w)(hd:pZ Z w (.slice A n cp) t)(hB:sm t)(qb:(jW c 2 hP hk).sp.sk M.s<jH):
 Calls Tryz.prog 35 #[aI a.ab,.agg (bc m (.slice A n cp))] w (TelP Z (jW c 2 hP hk) c a (if c.f 4=2∧m.f 6=3 then aPutM (jW c 2 hP hk).sp c M (m.f 5) t (m.f 6)else M) [] w):=by
 have HH:=ae h;have HDT:=ae hd;have Mo:=ae hB;have IL:=ae qb;clear h hd hB qb
 by_cases h4:c.f 4=2
 ·by_cases h6:m.f 6=3
  ·have HE:=aH ((if c.f 4=2∧m.f 6=3 then aPutM (jW c 2 hP hk).sp c M (m.f 5) t (m.f 6)else M)=aPutM (jW c 2 hP hk).sp c M (m.f 5) t (m.f 6)) (if_pos ⟨h4,h6⟩);rw[HE.out];have Aw:=ae h4;have Cb:=ae h6;clear h4 h6 HE
   go_enter Tryz.func35,Tryz.ntmps35
   go_upto_region 1 with fail;have ho:=(af.ak aA w).alloc (.cells (bc m (.slice A n cp)) 37);have HQ:=ae (Box.fresh w 37 (bc m (.slice A n cp)));have bw:=ae ho;have H1:=ae (HH.keep ho);change Code.wp _ _ _ _ (w.alloc (.cells (bc m (.slice A n cp)) 37));clear ho;generalize w.alloc (.cells (bc m (.slice A n cp)) 37)=W1 at *;generalize Kd:w.heap.size=qbZq at *;have HQB:=ae Kd;clear Kd;have HPT:=ae (ara_put (b:=m.f 5) (wB:=m.f 6) H1 (HDT.keep bw) Mo IL);rw[Cb.out]at HPT;have x4:aF W1 a.ab 4 2:=H1.az.ag (by rw[←Aw.out];exact Eo c _ _ _ _ _ _ (by decide));have x5:aF W1 qbZq 5 (m.f 5):=HQ.ag rfl;have x6:aF W1 qbZq 6 3:=by rw[←Cb.out];exact HQ.ag rfl
   have Qh:ba W1 qbZq 10 (.slice A n cp):=HQ.ag rfl;go_wp2_with (go_at_call 66;refine HPT.mono ?_;rintro e w2 ⟨u,rfl,_,hp⟩);go_ret;rw[←Cb.out]at hp;exact⟨_,rfl,dh.nil _ _ _,hp.back bw⟩
  ·have HE:=aH ((if c.f 4=2∧m.f 6=3 then aPutM (jW c 2 hP hk).sp c M (m.f 5) t (m.f 6)else M)=M) (if_neg fun e=>h6 e.2);rw[HE.out];have h6b:(m.f 6==3)=false:=by simpa using h6
   have Aw:=ae h4;clear h4 h6 HE
   go_enter Tryz.func35,Tryz.ntmps35
   go_upto_region 1 with fail;have ho:=(af.ak aA w).alloc (.cells (bc m (.slice A n cp)) 37);have HQ:=ae (Box.fresh w 37 (bc m (.slice A n cp)));have bw:=ae ho;have H1:=ae (HH.keep ho);change Code.wp _ _ _ _ (w.alloc (.cells (bc m (.slice A n cp)) 37));clear ho;generalize w.alloc (.cells (bc m (.slice A n cp)) 37)=W1 at *;generalize Kd:w.heap.size=qbZq at *;have HQB:=ae Kd;clear Kd;have x4:aF W1 a.ab 4 2:=H1.az.ag (by rw[←Aw.out];exact Eo c _ _ _ _ _ _ (by decide));have x6:aF W1 qbZq 6 (m.f 6):=HQ.ag rfl;go_wp2_with fail;go_ret;exact⟨_,rfl,dh.nil _ _ _,ArrP.nil HH bw⟩
 ·have HE:=aH ((if c.f 4=2∧m.f 6=3 then aPutM (jW c 2 hP hk).sp c M (m.f 5) t (m.f 6)else M)=M) (if_neg fun e=>h4 e.1);rw[HE.out];have h4b:(c.f 4==2)=false:=by simpa using h4
  clear h4 HE
  go_enter Tryz.func35,Tryz.ntmps35
  go_upto_region 1 with fail;have ho:=(af.ak aA w).alloc (.cells (bc m (.slice A n cp)) 37);have HQ:=ae (Box.fresh w 37 (bc m (.slice A n cp)));have bw:=ae ho;have H1:=ae (HH.keep ho);change Code.wp _ _ _ _ (w.alloc (.cells (bc m (.slice A n cp)) 37));clear ho;generalize w.alloc (.cells (bc m (.slice A n cp)) 37)=W1 at *;generalize Kd:w.heap.size=qbZq at *;have HQB:=ae Kd;clear Kd;have x4:aF W1 a.ab 4 (c.f 4):=H1.az.ag (Eo c _ _ _ _ _ _ (by decide));go_wp2_with fail;go_ret;exact⟨_,rfl,dh.nil _ _ _,ArrP.nil HH bw⟩
theorem ara_read (h:ArrB Z (jW c 2 hP hk) c a M w)(qb:(jW c 2 hP hk).sp.sk M.s+1<jH)(J9:M.reads<1000000):
 Calls Tryz.prog 33 #[aI a.ab,.agg (bc m (.slice A n cp))] w (TelP Z (jW c 2 hP hk) c a (aReadM (jW c 2 hP hk).sp c M (m.f 5) (m.f 6)) (aReadT (jW c 2 hP hk).sp c M (m.f 5) (m.f 6)) w):=by
 have HH:=ae h;have IL:=ae qb;have HRDS:=ae J9;have HZB0:=ae h.zbZq;have HHB0:=ae h.aO
 cases hDZq:a.D (m.f 5)with
 |none=>
  have hMD:M.D (m.f 5)=none:=by rw[h.dd,hDZq];rfl
  have HU1:=ae hDZq
  by_cases hb:0≤m.f 5∧m.f 5<c.f 2
  ·have MF:=ae hb;have HE:=aH (aReadM (jW c 2 hP hk).sp c M (m.f 5) (m.f 6)=aKeepM (jW c 2 hP hk).sp c (aMiss M) (m.f 5) (aSto c M (m.f 5)).2 (m.f 6)∧aReadT (jW c 2 hP hk).sp c M (m.f 5) (m.f 6)=aKeepT (jW c 2 hP hk).sp c (aMiss M) (m.f 5) (aSto c M (m.f 5)).2 (m.f 6) ++ [mkA 12 0 0 0 0 (m.f 5) 0 false (aSto c M (m.f 5)).2]) (⟨by unfold aReadM;rw[hMD];exact if_pos hb,by unfold aReadT;rw[hMD];exact if_pos hb⟩);have FR:=aH ((aSto c M (m.f 5)).2.length≤16) (by unfold aSto;rw[mF];have:=hP.p3;omega);have HTB:=aH (sm (aSto c M (m.f 5)).2) (blkOf_isB (h.sto.EY _));clear h qb J9 hDZq hMD hb
   go_enter Tryz.func33,Tryz.ntmps33
   go_upto_region 1 with fail;have ho:=(af.ak aA w).alloc (.cells (bc m (.slice A n cp)) 37);have HQ:=ae (Box.fresh w 37 (bc m (.slice A n cp)));have bw:=ae ho;have H1:=ae (HH.keep ho);change Code.wp _ _ _ _ (w.alloc (.cells (bc m (.slice A n cp)) 37));clear ho;generalize w.alloc (.cells (bc m (.slice A n cp)) 37)=W1 at *;generalize Kd:w.heap.size=qbZq at *;have HQB:=ae Kd;clear Kd;have HU:=ae (qX (H1.keep ((af.ak aA W1).drew)).cch HU1);have d18:ba W1.drew a.ab 18 (aI a.cb):=H1.az.ag rfl;have d5:aF W1.drew qbZq 5 (m.f 5):=HQ.ag rfl;go_upto_region 1 with fail;refine kb (fun w':World=>ba w' a.ab 18 (aI a.cb)∧aF w' qbZq 5 (m.f 5)) 11 ?_ ?_
   ·first|exact rq|exact⟨d18,d5⟩
   intro aX;refine eZ [0,1,2,3,4,5] ?_;refine lh 6 fun KcZq hK=>?_
   go_simp;refine HU.mono ?_;rintro e W2 ⟨rfl,bd⟩;have rq:ba W2 a.ab 18 (aI a.cb)∧aF W2 qbZq 5 (m.f 5):=⟨bd.cell d18 id,bd.cell d5 id⟩;have bR:=ae ((bw.drew).trans bd);have H2:=ae ((H1.keep ((af.ak aA W1).drew)).keep bd);have Pn:=ae (bd.az HQ.drew id);clear bd;refine lj hK ?_ fun aX=>?_
   ·first|exact rq|exact⟨d18,d5⟩
   clear hK;refine eZ [7,8,9,10] ?_;refine jz ?_;clear aX rq d18 d5;have HR:=ae (read_at (H2.keep ((af.ak aA W2).drew)) MF);have d17:ba W2.drew a.ab 17 (aI a.sb):=H2.az.ag rfl;have d5:aF W2.drew qbZq 5 (m.f 5):=Pn.ag rfl;go_upto_region 3 with fail;refine kb (fun w':World=>ba w' a.ab 17 (aI a.sb)∧aF w' qbZq 5 (m.f 5)) 13 ?_ ?_
   ·first|exact xd|exact⟨d17,d5⟩
   intro aX;refine eZ [0,1,2,3,4,5] ?_;refine lh 6 fun KcZq hK=>?_
   go_simp;refine HR.mono ?_;rintro e W3 ⟨vv,rfl,uc,bQ,hf3⟩;have xd:ba W3 a.ab 17 (aI a.sb)∧aF W3 qbZq 5 (m.f 5):=⟨bQ.cell d17 id,bQ.cell d5 id⟩;have b7:=ae ((bR.drew).trans bQ);have H3:=ae ((H2.keep ((af.ak aA W2).drew)).keep bQ);have HQ3:=ae (bQ.az Pn.drew id);have HD3:=ae (pZ.row (Z:=Z) uc (by have:=FR.out;omega) fun k hk hz=>by have h1:=H2.nlt k hz;have h2:W2.heap.size≤k:=hf3 k hk;omega);obtain⟨AvZq,cv,CI,_,_⟩:=uc.shape;have HVS:=aH (∃A n c,vv= .slice A n c) (⟨_,_,_,CI⟩);clear bQ uc hf3 CI;refine lj hK ?_ fun aX=>?_
   ·first|exact xd|exact⟨d17,d5⟩
   clear hK;refine eZ [7,8,9,10,11,12] ?_;refine jz ?_;clear aX xd d17 d5;have M0:aF W3 a.ab 20 M.reads:=H3.az.ag rfl;have g20:W3.frozen? ⟨a.ab,20,none⟩=false:=H3.az.free _;have GJ:IntKind.i64.wrap ((M.reads:Int)+1)=(M.reads:Int)+1:=by rw[IntKind.wrap_i64];have:=HRDS.out;omega
   go_upto_region 7 with fail;have j4:af (aM a.ab) W3 (W3.setCell ⟨a.ab,20,none⟩ (ah ((M.reads:Int)+1))):=(af.ak (aM a.ab) W3).setCell (p:=⟨a.ab,20,none⟩) (.inl (show aM a.ab a.ab from rfl)) _;have H4:=ae (H3.miss j4);have jb:=ae ((b7.mono (S':=ArrW a) fun _ h=>h.elim).aE j4 fun k hk=>.inl (by rw[show k=a.ab from hk];exact .inr (.inr (.inr (.inl rfl)))));have HW3:=aH (Wr Z (aM a.ab) W3) (fun k _ hk=>by rw[show k=a.ab from hk];exact⟨H3.lo _ (.inr (.inr (.inr (.inl rfl)))),.inr fun cs hb=>absurd (hb.same H3.az).1 (by decide)⟩);have PF:=ae (HD3.ao j4 HW3);have HQ4:=ae (j4.az HQ3 fun e=>by have e:qbZq=a.ab:=e;have h1:=HH.az.lt;have h2:=HQB.out;omega);have HSZ4:=aH (w.heap.size≤(W3.setCell ⟨a.ab,20,none⟩ (ah ((M.reads:Int)+1))).heap.size) (jb.size);clear j4 M0 g20 GJ HW3;change Code.wp _ _ _ _ (W3.setCell ⟨a.ab,20,none⟩ (ah ((M.reads:Int)+1)));generalize W3.setCell ⟨a.ab,20,none⟩ (ah ((M.reads:Int)+1))=W4 at *;obtain⟨AqZq,nq,hvq⟩:=PF.shape;subst hvq;have HK:=ae (ara_keep (b:=m.f 5) (wB:=m.f 6) H4 PF HTB (by show _<jH;have:=IL.out;show(jW c 2 hP hk).sp.sk M.s<jH;omega));have q5:aF W4 qbZq 5 (m.f 5):=HQ4.ag rfl;have q6Zq:aF W4 qbZq 6 (m.f 6):=HQ4.ag rfl;go_upto_region 11 with(go_at_call 64;refine HK.mono ?_;rintro e W5 ⟨u,rfl,Af,D5Zq,V5,h5,o5⟩);have HA:=ae h5;have HM:=ae Af;have Ix:=ae (jb.aE o5 fun k hk=>.inl hk);have HQ5:=ae (o5.az HQ4 fun e=>absurd (H4.M8 e HQ4) (by decide));have HD5:=ae (PF.ao o5 H4.wr);have tX:=ae (aKeepT_len (sp:=(jW c 2 hP hk).sp) (c:=c) (M:=aMiss M) (b:=m.f 5) (t:=(aSto c M (m.f 5)).2) (wB:=m.f 6));have De:=ae HSZ4;have HZB:=aH (Z.B≤W4.heap.size) (by have h1:=HZB0.out;have h2:=HSZ4.out;have h3:=HQB.out;omega);have HHB:=aH (0<c.h.length→∀k,aJ a.hv k→k<W4.heap.size) (fun h0 k hk=>by have h1:=HHB0.out h0 k hk;have h2:=HSZ4.out;have h3:=HQB.out;omega);have HBS:=ae o5.size;clear Af h5 o5 q5 q6Zq HK H4 PF HQ4 jb;obtain⟨X,e1,r1,d1⟩:=HM.out;have HXL:=aH (X.length≤1) (by have h9:=tX.out;have h8:X.length=(aKeepT (jW c 2 hP hk).sp c (aMiss M) (m.f 5) (aSto c M (m.f 5)).2 (m.f 6)).length:=(by rw[←List.length_map (f:=Prod.fst),e1]);omega);have HE1:=ae e1;have zj:=ae (r1.alloc (.cells (wL (m.f 5) (.slice AqZq ((aSto c M (m.f 5)).2).length nq)) 37));have mK:=(af.ak aA W5).alloc (.cells (wL (m.f 5) (.slice AqZq ((aSto c M (m.f 5)).2).length nq)) 37);have HDD1:=ae (fun q hq=>(d1 q hq).keep mK);have HD7:=ae (HD5.keep mK);have HA7:=ae (HA.keep mK);have Mi:=ae (HM.keep mK);have zk:=ae (Ix.aE mK fun _ h=>h.elim);have HSZ7:=ae mK.size;have z5:aF W5 qbZq 5 (m.f 5):=HQ5.ag rfl;clear e1 r1 d1 mK;obtain⟨AoZq,co,eo,_,_⟩:=HM.shape;subst eo;go_wp2_with (at_builtin;refine j6 _ rfl (.tmp 66) (.tmp 71) 43 37 rfl yg rfl (by decide) Tryz.underlying43 W4.heap.size _ X.length _ (wL (m.f 5) (.slice AqZq ((aSto c M (m.f 5)).2).length nq)).toList rfl zj ⟨W5.heap.size,0,none⟩ rfl rfl (tE W5 _ _) (by simp[wL,Value.oneCell']) (by unfold maxLen;have:=HXL.out;omega) (by have:=HXL.out;omega) (Nat.le_trans HBS HSZ7) ?_;intro v8 W8 h8 NM _;have hw8:=Mi.wr HZB.out;have HMS8:=ae (dh.app (v':=undef) (mkA 12 0 0 0 0 (m.f 5) 0 false (aSto c M (m.f 5)).2,(.slice AqZq ((aSto c M (m.f 5)).2).length nq)) h8 HE1 (fun q hq=>(HDD1 q hq).ao NM hw8) (HD7.ao NM hw8));have H8Zq:=ae (HA7.msgs Mi HZB HHB NM);have HO8:=ae (zk.aE NM fun j hj=>.inr (Nat.le_trans De (Mi.az hj).1));obtain⟨A8Zq,c8Zq,e8,_,_⟩:=oH h8;subst e8;clear h8 NM hw8)
   go_wp2_with fail;go_ret;exact⟨_,rfl,by rw[HE.2];exact HMS8.low De,_,_,by rw[HE.1];exact H8Zq,HO8⟩
  ·have HE:=aH (aReadM (jW c 2 hP hk).sp c M (m.f 5) (m.f 6)=M∧aReadT (jW c 2 hP hk).sp c M (m.f 5) (m.f 6)= [mkA 12 0 0 0 0 (m.f 5) 9 false []]) (⟨by unfold aReadM;rw[hMD];exact if_neg hb,by unfold aReadT;rw[hMD];exact if_neg hb⟩);have MF:=ae hb;clear h qb J9 hDZq hMD hb
   go_enter Tryz.func33,Tryz.ntmps33
   go_upto_region 1 with fail;have ho:=(af.ak aA w).alloc (.cells (bc m (.slice A n cp)) 37);have HQ:=ae (Box.fresh w 37 (bc m (.slice A n cp)));have bw:=ae ho;have H1:=ae (HH.keep ho);change Code.wp _ _ _ _ (w.alloc (.cells (bc m (.slice A n cp)) 37));clear ho;generalize w.alloc (.cells (bc m (.slice A n cp)) 37)=W1 at *;generalize Kd:w.heap.size=qbZq at *;have HQB:=ae Kd;clear Kd;have HU:=ae (qX (H1.keep ((af.ak aA W1).drew)).cch HU1);have d18:ba W1.drew a.ab 18 (aI a.cb):=H1.az.ag rfl;have d5:aF W1.drew qbZq 5 (m.f 5):=HQ.ag rfl;go_upto_region 1 with fail;refine kb (fun w':World=>ba w' a.ab 18 (aI a.cb)∧aF w' qbZq 5 (m.f 5)) 11 ?_ ?_
   ·first|exact rq|exact⟨d18,d5⟩
   intro aX;refine eZ [0,1,2,3,4,5] ?_;refine lh 6 fun KcZq hK=>?_
   go_simp;refine HU.mono ?_;rintro e W2 ⟨rfl,bd⟩;have rq:ba W2 a.ab 18 (aI a.cb)∧aF W2 qbZq 5 (m.f 5):=⟨bd.cell d18 id,bd.cell d5 id⟩;have bR:=ae ((bw.drew).trans bd);have H2:=ae ((H1.keep ((af.ak aA W1).drew)).keep bd);have Pn:=ae (bd.az HQ.drew id);clear bd;refine lj hK ?_ fun aX=>?_
   ·first|exact rq|exact⟨d18,d5⟩
   clear hK;refine eZ [7,8,9,10] ?_;refine jz ?_;clear aX rq d18 d5;have HR:=ae (zM (b:=m.f 5) (sh:=sr c) MF (H2.keep ((af.ak aA W2).drew)).sto);have d17:ba W2.drew a.ab 17 (aI a.sb):=H2.az.ag rfl;have d5:aF W2.drew qbZq 5 (m.f 5):=Pn.ag rfl;go_upto_region 3 with fail;refine kb (fun w':World=>ba w' a.ab 17 (aI a.sb)∧aF w' qbZq 5 (m.f 5)) 13 ?_ ?_
   ·first|exact xd|exact⟨d17,d5⟩
   intro aX;refine eZ [0,1,2,3,4,5] ?_;refine lh 6 fun KcZq hK=>?_
   go_simp;refine HR.mono ?_;rintro e W3 ⟨rfl,rfl⟩;have xd:=aX;refine lj hK ?_ fun aX=>?_
   ·first|exact xd|exact⟨d17,d5⟩
   clear hK;refine eZ [7,8,9,10,11,12] ?_;refine jz ?_;clear aX xd d17 d5;have z5:aF W2.drew qbZq 5 (m.f 5):=Pn.ag rfl;have b7:=ae bR.drew;generalize W2.drew=W3 at z5 b7 ⊢;go_wp2_with fail;go_ret;have hs:=b7.size;exact⟨_,rfl,by rw[HE.2];exact dh.one (base:=w.heap.size) (mkA 12 0 0 0 0 (m.f 5) 9 false []) rfl (pZ.nil _ _) rfl hs,by rw[HE.1];exact ArrP.nil HH (b7.alloc _)⟩
 |some p=>
  obtain⟨t,v0⟩:=p;have hMD:M.D (m.f 5)=some t:=by rw[h.dd,hDZq];rfl
  have HU1:=ae hDZq;have HTB:=ae (h.EY _ _ hMD);have FR:=aH (t.length≤16) (by have h1:=(h.cch.kg _ _ _ hDZq).len;have:=hP.p3;omega);have HX:=ae h.EY
  by_cases h4:c.f 4=2
  ·have HE:=aH (aReadM (jW c 2 hP hk).sp c M (m.f 5) (m.f 6)=aKeepM (jW c 2 hP hk).sp c (aHit (jW c 2 hP hk).sp M (m.f 5)) (m.f 5) t (m.f 6)∧aReadT (jW c 2 hP hk).sp c M (m.f 5) (m.f 6)=aKeepT (jW c 2 hP hk).sp c (aHit (jW c 2 hP hk).sp M (m.f 5)) (m.f 5) t (m.f 6) ++ [mkA 12 0 0 0 0 (m.f 5) 0 false t]) (⟨by unfold aReadM;rw[hMD];exact if_pos h4,by unfold aReadT;rw[hMD];show(if c.f 4=2 then _ else _) ++ _=_;rw[if_pos h4]⟩);have Aw:=ae h4;clear h qb J9 hDZq hMD h4
   go_enter Tryz.func33,Tryz.ntmps33
   go_upto_region 1 with fail;have ho:=(af.ak aA w).alloc (.cells (bc m (.slice A n cp)) 37);have HQ:=ae (Box.fresh w 37 (bc m (.slice A n cp)));have bw:=ae ho;have H1:=ae (HH.keep ho);change Code.wp _ _ _ _ (w.alloc (.cells (bc m (.slice A n cp)) 37));clear ho;generalize w.alloc (.cells (bc m (.slice A n cp)) 37)=W1 at *;generalize Kd:w.heap.size=qbZq at *;have HQB:=ae Kd;clear Kd;have HU:=ae (BI (H1.keep ((af.ak aA W1).drew)).cch HU1 (by have:=IL.out;omega));have d18:ba W1.drew a.ab 18 (aI a.cb):=H1.az.ag rfl;have d5:aF W1.drew qbZq 5 (m.f 5):=HQ.ag rfl;go_upto_region 1 with fail;refine kb (fun w':World=>ba w' a.ab 18 (aI a.cb)∧aF w' qbZq 5 (m.f 5)) 11 ?_ ?_
   ·first|exact rq|exact⟨d18,d5⟩
   intro aX;refine eZ [0,1,2,3,4,5] ?_;refine lh 6 fun KcZq hK=>?_
   go_simp;refine HU.mono ?_;rintro e W2 ⟨vv,rfl,rj,Ak,uf,bd⟩;have hFo:∀k t cs,Box W1.drew k t cs→t∉Du→¬(jW c 2 hP hk).F a.i k:=fun k t cs hb ht hx=>ht (H1.fu _ _ _ H1.cch.ord k hx t cs hb)
   have Pn:=ae (bd.az HQ.drew (hFo _ _ _ HQ.drew (by decide)));have rq:ba W2 a.ab 18 (aI a.cb)∧aF W2 qbZq 5 (m.f 5):=⟨(bd.az H1.az.drew (hFo _ _ _ H1.az.drew (by decide))).ag rfl,Pn.ag rfl⟩;have bR:=aH (af (ArrW a) w W2) (((bw.drew).mono (S':=ArrW a) fun _ h=>h.elim).aE bd fun k hk=>.inl (.inl hk));have H2:=aH (ArrB Z (jW c 2 hP hk) c a (aHit (jW c 2 hP hk).sp M (m.f 5)) W2) ((H1.keep ((af.ak aA W1).drew)).cacheS uf (bd.mono fun k hk=>.inl (.inl hk)) H1.dd H1.dnZq HX);have PG:=ae (pZ.row (Z:=Z) rj (by have:=FR.out;omega) fun k hk hz=>by have h1:=H1.nlt k hz;have h2:W1.heap.size≤k:=Ak k hk;omega);obtain⟨AvZq,cv,CI,_,_⟩:=rj.shape;have HVS:=aH (∃A n c,vv= .slice A n c) (⟨_,_,_,CI⟩);clear bd rj Ak uf hFo CI;refine lj hK ?_ fun aX=>?_
   ·first|exact rq|exact⟨d18,d5⟩
   clear hK;refine eZ [7,8,9,10] ?_;refine jz ?_;clear aX rq d18 d5;have x4:aF W2 a.ab 4 2:=H2.az.ag (by rw[←Aw.out];exact Eo c _ _ _ _ _ _ (by decide));have jb:=ae bR;have H4:=ae H2;have PF:=ae PG;have HQ4:=ae Pn;have HSZ4:=aH (w.heap.size≤W2.heap.size) (bR.size);obtain⟨AqZq,nq,hvq⟩:=PF.shape;subst hvq;have HK:=ae (ara_keep (b:=m.f 5) (wB:=m.f 6) H4 PF HTB (by show _<jH;have:=IL.out;have h9:=((jW c 2 hP hk).oc a.i).AQ M.s (m.f 5);show(jW c 2 hP hk).sp.sk ((jW c 2 hP hk).sp.use M.s (m.f 5))<jH;omega));have q5:aF W2 qbZq 5 (m.f 5):=HQ4.ag rfl;have q6Zq:aF W2 qbZq 6 (m.f 6):=HQ4.ag rfl;go_upto_region 11 with(go_at_call 64;refine HK.mono ?_;rintro e W5 ⟨u,rfl,Af,D5Zq,V5,h5,o5⟩);have HA:=ae h5;have HM:=ae Af;have Ix:=ae (jb.aE o5 fun k hk=>.inl hk);have HQ5:=ae (o5.az HQ4 fun e=>absurd (H4.M8 e HQ4) (by decide));have HD5:=ae (PF.ao o5 H4.wr);have tX:=ae (aKeepT_len (sp:=(jW c 2 hP hk).sp) (c:=c) (M:=aHit (jW c 2 hP hk).sp M (m.f 5)) (b:=m.f 5) (t:=t) (wB:=m.f 6));have De:=ae HSZ4;have HZB:=aH (Z.B≤W2.heap.size) (by have h1:=HZB0.out;have h2:=HSZ4.out;have h3:=HQB.out;omega);have HHB:=aH (0<c.h.length→∀k,aJ a.hv k→k<W2.heap.size) (fun h0 k hk=>by have h1:=HHB0.out h0 k hk;have h2:=HSZ4.out;have h3:=HQB.out;omega);have HBS:=ae o5.size;clear Af h5 o5 q5 q6Zq HK H4 PF HQ4 jb;obtain⟨X,e1,r1,d1⟩:=HM.out;have HXL:=aH (X.length≤1) (by have h9:=tX.out;have h8:X.length=(aKeepT (jW c 2 hP hk).sp c (aHit (jW c 2 hP hk).sp M (m.f 5)) (m.f 5) t (m.f 6)).length:=(by rw[←List.length_map (f:=Prod.fst),e1]);omega);have HE1:=ae e1;have zj:=ae (r1.alloc (.cells (wL (m.f 5) (.slice AqZq (t).length nq)) 37));have mK:=(af.ak aA W5).alloc (.cells (wL (m.f 5) (.slice AqZq (t).length nq)) 37);have HDD1:=ae (fun q hq=>(d1 q hq).keep mK);have HD7:=ae (HD5.keep mK);have HA7:=ae (HA.keep mK);have Mi:=ae (HM.keep mK);have zk:=ae (Ix.aE mK fun _ h=>h.elim);have HSZ7:=ae mK.size;have z5:aF W5 qbZq 5 (m.f 5):=HQ5.ag rfl;clear e1 r1 d1 mK;obtain⟨AoZq,co,eo,_,_⟩:=HM.shape;subst eo;go_wp2_with (at_builtin;refine j6 _ rfl (.tmp 66) (.tmp 71) 43 37 rfl yg rfl (by decide) Tryz.underlying43 W2.heap.size _ X.length _ (wL (m.f 5) (.slice AqZq (t).length nq)).toList rfl zj ⟨W5.heap.size,0,none⟩ rfl rfl (tE W5 _ _) (by simp[wL,Value.oneCell']) (by unfold maxLen;have:=HXL.out;omega) (by have:=HXL.out;omega) (Nat.le_trans HBS HSZ7) ?_;intro v8 W8 h8 NM _;have hw8:=Mi.wr HZB.out;have HMS8:=ae (dh.app (v':=undef) (mkA 12 0 0 0 0 (m.f 5) 0 false t,(.slice AqZq (t).length nq)) h8 HE1 (fun q hq=>(HDD1 q hq).ao NM hw8) (HD7.ao NM hw8));have H8Zq:=ae (HA7.msgs Mi HZB HHB NM);have HO8:=ae (zk.aE NM fun j hj=>.inr (Nat.le_trans De (Mi.az hj).1));obtain⟨A8Zq,c8Zq,e8,_,_⟩:=oH h8;subst e8;clear h8 NM hw8);go_wp2_with fail;go_ret;exact⟨_,rfl,by rw[HE.2];exact HMS8.low De,_,_,by rw[HE.1];exact H8Zq,HO8⟩
  ·have h4b:(c.f 4==2)=false:=by simpa using h4
   have HE:=aH (aReadM (jW c 2 hP hk).sp c M (m.f 5) (m.f 6)=aHit (jW c 2 hP hk).sp M (m.f 5)∧aReadT (jW c 2 hP hk).sp c M (m.f 5) (m.f 6)= [] ++ [mkA 12 0 0 0 0 (m.f 5) 0 false t]) (⟨by unfold aReadM;rw[hMD];exact if_neg h4,by unfold aReadT;rw[hMD];show(if c.f 4=2 then _ else _) ++ _=_;rw[if_neg h4]⟩);clear h qb J9 hDZq hMD h4
   go_enter Tryz.func33,Tryz.ntmps33
   go_upto_region 1 with fail;have ho:=(af.ak aA w).alloc (.cells (bc m (.slice A n cp)) 37);have HQ:=ae (Box.fresh w 37 (bc m (.slice A n cp)));have bw:=ae ho;have H1:=ae (HH.keep ho);change Code.wp _ _ _ _ (w.alloc (.cells (bc m (.slice A n cp)) 37));clear ho;generalize w.alloc (.cells (bc m (.slice A n cp)) 37)=W1 at *;generalize Kd:w.heap.size=qbZq at *;have HQB:=ae Kd;clear Kd;have HU:=ae (BI (H1.keep ((af.ak aA W1).drew)).cch HU1 (by have:=IL.out;omega));have d18:ba W1.drew a.ab 18 (aI a.cb):=H1.az.ag rfl;have d5:aF W1.drew qbZq 5 (m.f 5):=HQ.ag rfl;go_upto_region 1 with fail;refine kb (fun w':World=>ba w' a.ab 18 (aI a.cb)∧aF w' qbZq 5 (m.f 5)) 11 ?_ ?_
   ·first|exact rq|exact⟨d18,d5⟩
   intro aX;refine eZ [0,1,2,3,4,5] ?_;refine lh 6 fun KcZq hK=>?_
   go_simp;refine HU.mono ?_;rintro e W2 ⟨vv,rfl,rj,Ak,uf,bd⟩;have hFo:∀k t cs,Box W1.drew k t cs→t∉Du→¬(jW c 2 hP hk).F a.i k:=fun k t cs hb ht hx=>ht (H1.fu _ _ _ H1.cch.ord k hx t cs hb)
   have Pn:=ae (bd.az HQ.drew (hFo _ _ _ HQ.drew (by decide)));have rq:ba W2 a.ab 18 (aI a.cb)∧aF W2 qbZq 5 (m.f 5):=⟨(bd.az H1.az.drew (hFo _ _ _ H1.az.drew (by decide))).ag rfl,Pn.ag rfl⟩;have bR:=aH (af (ArrW a) w W2) (((bw.drew).mono (S':=ArrW a) fun _ h=>h.elim).aE bd fun k hk=>.inl (.inl hk));have H2:=aH (ArrB Z (jW c 2 hP hk) c a (aHit (jW c 2 hP hk).sp M (m.f 5)) W2) ((H1.keep ((af.ak aA W1).drew)).cacheS uf (bd.mono fun k hk=>.inl (.inl hk)) H1.dd H1.dnZq HX);have PG:=ae (pZ.row (Z:=Z) rj (by have:=FR.out;omega) fun k hk hz=>by have h1:=H1.nlt k hz;have h2:W1.heap.size≤k:=Ak k hk;omega);obtain⟨AvZq,cv,CI,_,_⟩:=rj.shape;have HVS:=aH (∃A n c,vv= .slice A n c) (⟨_,_,_,CI⟩);clear bd rj Ak uf hFo CI;refine lj hK ?_ fun aX=>?_
   ·first|exact rq|exact⟨d18,d5⟩
   clear hK;refine eZ [7,8,9,10] ?_;refine jz ?_;clear aX rq d18 d5;have x4:aF W2 a.ab 4 (c.f 4):=H2.az.ag (Eo c _ _ _ _ _ _ (by decide));generalize c.f 4=f4 at h4b x4;obtain⟨AqZq,nq,hvq⟩:=PG.shape;subst hvq;go_upto_region 11 with fail;have HA:=ae H2;have Ix:=ae bR;have HQ5:=ae Pn;have HD5:=ae PG;have HM:=ae (dh.nil Z W2 W2.heap.size);have tX:=ae (show([]:List PM).length≤1 by decide);have De:=aH (w.heap.size≤W2.heap.size) (bR.size);have HZB:=aH (Z.B≤W2.heap.size) (by have h1:=HZB0.out;have h2:=De.out;have h3:=HQB.out;omega);have HHB:=aH (0<c.h.length→∀k,aJ a.hv k→k<W2.heap.size) (fun h0 k hk=>by have h1:=HHB0.out h0 k hk;have h2:=De.out;have h3:=HQB.out;omega);have HBS:=ae (Nat.le_refl W2.heap.size);clear x4;obtain⟨X,e1,r1,d1⟩:=HM.out;have HXL:=aH (X.length≤1) (by have h9:=tX.out;have h8:X.length=([]:List PM).length:=(by rw[←List.length_map (f:=Prod.fst),e1]);omega);have HE1:=ae e1;have zj:=ae (r1.alloc (.cells (wL (m.f 5) (.slice AqZq (t).length nq)) 37));have mK:=(af.ak aA W2).alloc (.cells (wL (m.f 5) (.slice AqZq (t).length nq)) 37);have HDD1:=ae (fun q hq=>(d1 q hq).keep mK);have HD7:=ae (HD5.keep mK);have HA7:=ae (HA.keep mK);have Mi:=ae (HM.keep mK);have zk:=ae (Ix.aE mK fun _ h=>h.elim);have HSZ7:=ae mK.size;have z5:aF W2 qbZq 5 (m.f 5):=HQ5.ag rfl;clear e1 r1 d1 mK;go_wp2_with (at_builtin;refine j6 _ rfl (.tmp 66) (.tmp 71) 43 37 rfl yg rfl (by decide) Tryz.underlying43 W2.heap.size _ X.length _ (wL (m.f 5) (.slice AqZq (t).length nq)).toList rfl zj ⟨W2.heap.size,0,none⟩ rfl rfl (tE W2 _ _) (by simp[wL,Value.oneCell']) (by unfold maxLen;have:=HXL.out;omega) (by have:=HXL.out;omega) (Nat.le_trans HBS HSZ7) ?_;intro v8 W8 h8 NM _;have hw8:=Mi.wr HZB.out;have HMS8:=ae (dh.app (v':=undef) (mkA 12 0 0 0 0 (m.f 5) 0 false t,(.slice AqZq (t).length nq)) h8 HE1 (fun q hq=>(HDD1 q hq).ao NM hw8) (HD7.ao NM hw8));have H8Zq:=ae (HA7.msgs Mi HZB HHB NM);have HO8:=ae (zk.aE NM fun j hj=>.inr (Nat.le_trans De (Mi.az hj).1));obtain⟨A8Zq,c8Zq,e8,_,_⟩:=oH h8;subst e8;clear h8 NM hw8);go_wp2_with fail;go_ret;exact⟨_,rfl,by rw[HE.2];exact HMS8.low De,_,_,by rw[HE.1];exact H8Zq,HO8⟩
end
end Go.Proofs.YtpcfhbeakecihaaGreat

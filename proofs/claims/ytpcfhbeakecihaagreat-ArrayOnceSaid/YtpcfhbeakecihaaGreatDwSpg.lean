/- texts Spg -/
import Derived.Test.YtpcfhbeakecihaaGreatDwSpb
import Derived.Test.YtpcfhbeakecihaaGreatDwSpa
import Derived.Test.YtpcfhbeakecihaaGreatM6
import Derived.Test.YtpcfhbeakecihaaGreatM3
import Derived.Test.YtpcfhbeakecihaaGreatM2
import Derived.Test.YtpcfhbeakecihaaGreatM1
import Derived.Test.YtpcfhbeakecihaaGreatM4
import Derived.Test.YtpcfhbeakecihaaGreatM5
set_option linter.all false
set_option maxHeartbeats 20000000
set_option maxRecDepth 100000
namespace Go.Proofs.YtpcfhbeakecihaaGreat
open Go.RowKit Go.ChangeShapes Go.WideShapes
theorem stoC_shape {sh:Nat→Int}{db j:Nat}{v:Value}(h:(dY sh).toList[j]? =some v):(p7 sh db)[j]? =some v:=by
 have hj:j<4:=(List.getElem?_eq_some_iff.1 h).1;rcases(show j=0∨j=1∨j=2∨j=3 by omega)with rfl|rfl|rfl|rfl<;>exact h
section
variable {w:World}{sb db lb:Nat}{V:Nat→Value}{sh:Nat→Int}{d:dH}{wr:Nat→Int}{t:List Int}{v:Nat}{dv:Value}
theorem does_num {W:World}{g:Nat}(h:Box W g 3 #[.int .i64 (v:Nat)])(hv:v≤1000):Calls Tryz.prog 92 #[.slice (some ⟨g,0,none⟩) 1 1] W (oB (catS [v]) W):=
 sto_numbers [v] W (by show 1≤6;decide) (fun k hk=>by
  obtain rfl:k=0:=by have hk:k<1:=hk;omega
  show v<_;omega) fun k hk=>by
  obtain rfl:k=0:=by have hk:k<1:=hk;omega
  exact⟨g,0,rfl,h.ag rfl⟩
theorem does_txt {W:World}{v3:Value}(h:Row 5 W v3 (bytes (catS [v])))(hd:b8 W dv t)(ht:t.length≤16):Calls Tryz.prog 91 #[v3,dv] W (oB (blkB v t) W):=by
 have:=catS_len [v];have e: [v].length=1:=rfl;exact zP v3 dv (catS [v]) t W (h.nR (by omega)) hd (by omega) (by omega)
theorem does_num3 {W:World}{g:Nat}(h:Box W g 3 #[.int .i64 (wr 2),.int .i64 (wr 3),.int .i64 0])(hf:uy sh wr=true):Calls Tryz.prog 92 #[.slice (some ⟨g,0,none⟩) 3 3] W (oB (catS [(wr 2).toNat,(wr 3).toNat,0]) W):=by
 obtain⟨_,_,_,_,h4,h5,h6,h7⟩:=fitB_of hf;refine sto_numbers [(wr 2).toNat,(wr 3).toNat,0] W (by show 3≤6;decide) (fun k hk=>?_) fun k hk=>?_
 ·have hk:k<3:=hk;rcases(show k=0∨k=1∨k=2 by omega)with rfl|rfl|rfl
  ·show(wr 2).toNat<_;omega
  ·show(wr 3).toNat<_;omega
  ·show 0<_;omega
 ·have hk:k<3:=hk;have e2:(((wr 2).toNat:Nat):Int)=wr 2:=by omega
  have e3:(((wr 3).toNat:Nat):Int)=wr 3:=by omega
  rcases(show k=0∨k=1∨k=2 by omega)with rfl|rfl|rfl
  ·exact⟨g,0,rfl,by show aF W g 0 (((wr 2).toNat:Nat):Int);rw[e2];exact h.ag rfl⟩
  ·exact⟨g,0,rfl,by show aF W g 1 (((wr 3).toNat:Nat):Int);rw[e3];exact h.ag rfl⟩
  ·exact⟨g,0,rfl,h.ag rfl⟩
theorem wrAll_does (sh:Nat→Int)(d:dH)(wr:Nat→Int)(t:List Int)(v:Nat):wrAll d [(1+(wr 4).toNat,blkB v t),(slotI sh (wr 0) (wr 1),catS [(wr 2).toNat,(wr 3).toNat,0]),(0,[])]=stDoes sh d wr t v:=by
 unfold stDoes;rw[wrAll,wrAll,wrAll,wrAll]
 by_cases h1:(d.write (1+(wr 4).toNat) (blkB v t)).2≠0
 ·rw[if_pos h1,if_pos h1]
 ·rw[if_neg h1,if_neg h1]
  by_cases h2:((d.write (1+(wr 4).toNat) (blkB v t)).1.write (slotI sh (wr 0) (wr 1)) (catS [(wr 2).toNat,(wr 3).toNat,0])).2≠0
  ·rw[if_pos h2,if_pos h2]
  ·rw[if_neg h2,if_neg h2]
   by_cases h3:(((d.write (1+(wr 4).toNat) (blkB v t)).1.write (slotI sh (wr 0) (wr 1)) (catS [(wr 2).toNat,(wr 3).toNat,0])).1.write 0 []).2≠0
   ·rw[if_pos h3]
   ·rw[if_neg h3];have h3:(((d.write (1+(wr 4).toNat) (blkB v t)).1.write (slotI sh (wr 0) (wr 1)) (catS [(wr 2).toNat,(wr 3).toNat,0])).1.write 0 []).2=0:=by omega
    exact Prod.ext rfl h3.symm
theorem slotI_at (hp:zh sh){c s:Int}(h0:0≤c)(h1:c<sh 2)(h2:0≤s)(h3:s<sh 3):((slotI sh c s:Nat):Int)=1+sh 0+sh 3*c+s∧slotI sh c s<64:=by
 have hm:=hp.mul h0 h1;have b0:=hp.b0;have b1:=hp.b1;unfold slotI;generalize sh 3*c=x at *;omega
theorem does_close {W:World}{sxZq lxZq g13 g31:Nat}{v6 v12:Value}(h:gF w sb db lb V sh d)(ho:af aA w W)(hs:gF W sb db lb V sh d)(hsx:Box W sxZq 70 #[.pointer (some ⟨sb,0,none⟩)])(hlx:Box W lxZq 60 #[.slice (some ⟨g13,0,none⟩) 3 3])
 (H8:Box W g13 35 #[v6,v12,.slice none 0 0]) (h31:Box W g31 3 #[.int .i64 (1+wr 4),.int .i64 (1+sh 0+sh 3*wr 0+wr 1),.int .i64 0]) (r6:Row 5 W v6 (bytes (blkB v t))) (r12:Row 5 W v12 (bytes (catS [(wr 2).toNat,(wr 3).toNat,0])))
 (hf:uy sh wr=true) (Hn:0≤wr 4∧wr 4<sh 0) (hv:v≤1000) (ht:t.length≤16) (hB:sm t) (KM:∀k,aJ v6 k→w.heap.size≤k) (hb12:∀k,aJ v12 k→w.heap.size≤k) (hg13:w.heap.size≤g13) (hg31:w.heap.size≤g31) (hl:w.heap.size≤sxZq∧w.heap.size≤lxZq):
 Calls Tryz.prog 118 #[.slice (some ⟨g31,0,none⟩) 3 3,.pointer (some ⟨lxZq,0,none⟩),.pointer (some ⟨sxZq,0,none⟩)] W fun e w'=>e= .returned (.int .i64 (stDoes sh d wr t v).2)∧StoP sb db lb V sh (stDoes sh d wr t v).1 w w'∧af (fun k=>k=db∨k=lb) W w':=by
 obtain⟨f0,f1,f2,f3,f4,f5,f6,f7⟩:=fitB_of hf;obtain⟨hsl,Ot⟩:=slotI_at h.zW f0 f1 f2 f3;have dq:=h.zW.b1;have aO:db<w.heap.size∧lb<w.heap.size:=⟨h.B1.lt (.inl rfl),h.B1.lt (.inr (.inl rfl))⟩;have hnum:=nums_len (a:=(wr 2).toNat) (o:=(wr 3).toNat) (n:=0) (by omega) (by omega) (by omega);have hblk:=blkB_len (v:=v) (t:=t) hv ht;have eb:((1+(wr 4).toNat:Nat):Int)=1+wr 4:=by omega
 have HW:WcB W db lb 3 lxZq sxZq sb g13 [(1+(wr 4).toNat,blkB v t),(slotI sh (wr 0) (wr 1),catS [(wr 2).toNat,(wr 3).toNat,0]),(0,[])] (fun k=>[v6,v12,.slice none 0 0].getD k undef) g31:=
  {csx:=hsx.ag rfl,clx:=hlx.ag rfl,vlZq:=fun k hk=>by
    rcases(show k=0∨k=1∨k=2 by omega)with rfl|rfl|rfl<;>exact H8.ag rfl,by_:=fun k hk=>by
    rcases(show k=0∨k=1∨k=2 by omega)with rfl|rfl|rfl
    ·exact r6.nR (by omega)
    ·exact r12.nR (by omega)
    ·exact⟨none,0,rfl,Nat.le_refl _,Nat.zero_le _,Src.kv _ _⟩,at_:=fun k hk=>by
    rcases(show k=0∨k=1∨k=2 by omega)with rfl|rfl|rfl
    ·show _=some (Value.int .i64 ((1+(wr 4).toNat:Nat):Int));rw[eb];exact h31.ag rfl
    ·show _=some (Value.int .i64 ((slotI sh (wr 0) (wr 1):Nat):Int));rw[hsl];exact h31.ag rfl
    ·exact h31.ag rfl,ne:=fun k hk=>by
    rcases hk with rfl|rfl|rfl|rfl|⟨j,hj,hk⟩
    ·omega
    ·omega
    ·omega
    ·omega
    ·rcases(show j=0∨j=1∨j=2 by omega)with rfl|rfl|rfl
     ·have:=KM k hk;omega
     ·have:=hb12 k hk;omega
     ·exact(bq hk).elim}
 rw[←wrAll_does];refine(sto_close hs HW rfl (by decide) fun k hk=>?_).mono fun e w' ⟨he,hp⟩=>⟨he,StoP.trans hs (fun k hk=>.inl hk) (ho.mono fun k hk=>hk.elim) hp,by obtain⟨_,_,_,h⟩:=hp;exact h⟩
 rcases(show k=0∨k=1∨k=2 by omega)with rfl|rfl|rfl
 ·exact⟨by show 1+(wr 4).toNat<64;omega,by show(blkB v t).length≤64;omega,isB_app (isB_cat fun x hx=>by rw[List.mem_singleton.1 hx];omega) (isB_app (isB_enc (by omega)) hB)⟩
 ·refine⟨Ot,by show(catS [(wr 2).toNat,(wr 3).toNat,0]).length≤64;omega,isB_cat fun x hx=>?_⟩;simp only[List.mem_cons,List.not_mem_nil,or_false]at hx;rcases hx with rfl|rfl|rfl<;>omega
 ·exact⟨by show 0<64;decide,by show 0≤64;decide,fun x hx=>by cases hx⟩
theorem sto_does {A:Option Addr}{n c:Nat}(h:gF w sb db lb V sh d)(hf:uy sh wr=true)(Hn:0≤wr 4∧wr 4<sh 0)(hd:b8 w (.slice A n c) t)(ht:t.length≤16)(hB:sm t)(hv:v≤1000):
 Calls Tryz.prog 58 #[.pointer (some ⟨sb,0,none⟩),.agg (Cx wr (.slice A n c)),.int .i64 v] w fun e w'=>e= .returned (.int .i64 (stDoes sh d wr t v).2)∧StoP sb db lb V sh (stDoes sh d wr t v).1 w w':=by
 obtain⟨f0,f1,f2,f3,f4,f5,f6,f7⟩:=fitB_of hf;have dq:=h.zW.b1;have HA:=ae (fun w=>pj (sh:=sh) (b:=wr 4) Hn.1 (by omega) w);have HSL:=ae (fun w=>BB h.zW f0 f1 f2 f3 w);have HH:=ae h;have HF:=ae hf;have MF:=ae Hn;have FR:=ae ht;have Mo:=ae hB;have HV:=ae hv;have HDT:=ae hd;obtain⟨dv,Ft⟩:∃dv:Value,dv= .slice A n c:=⟨_,rfl⟩;rw[←Ft]at HDT ⊢;clear h hf Hn hd ht hB hv f0 f1 f2 f3 f4 f5 f6 f7 dq Ft
 go_enter Tryz.func58,Tryz.ntmps58
 go_upto_region 1 with fail;have ho:=(af.ak aA w).alloc (.cells (Cx wr dv) 110);have bx:=Box.fresh w 110 (Cx wr dv);change Code.wp _ _ _ _ (w.alloc (.cells (Cx wr dv) 110));generalize w.alloc (.cells (Cx wr dv) 110)=W1 at *;generalize CH:w.heap.size=wb at *;have De:=ae CH;clear CH;have MD:=aH (Box W1.drew wb 110 (Cx wr dv)) (bx);have Io:=aH (gF W1.drew sb db lb V sh d) (HH.keep ho.drew);have Pp:=aH (af aA w W1.drew) (ho.drew);have HDT:=aH (b8 W1.drew dv t) (HDT.ao ho.drew fun _ _=>id);clear ho bx;refine kb (fun w':World=>Box w' wb 110 (Cx wr dv)∧Box w' sb 108 (p7 sh db)) 33 ?_ ?_
 ·first|exact DQ|exact⟨MD,Io.az⟩
 intro aX;refine eZ [0,1,4] ?_;refine bj (i:=5) (v:=dv) (by kernel_rfl) rfl (by kernel_rfl) (fun _ _ _ h=>h) (.inl ⟨by rfl,?_⟩) aX ?_
 ·intro w hSw;have hq:=hSw.1.ag (i:=5) (v:=dv) rfl;clear hSw;go_simp;(try with_reducible rfl)
 refine sd ?_;refine eZ [7] ?_;refine bj (i:=8) (v:=.int .i64 (wr 2)) (by kernel_rfl) rfl (by kernel_rfl) (fun _ _ _ h=>h) (.inl ⟨by rfl,?_⟩) aX ?_
 ·intro w hSw;have hq:=hSw.1.ag (i:=2) (v:=.int .i64 (wr 2)) rfl;clear hSw;go_simp;(try with_reducible rfl)
 refine sd ?_;refine eZ [9] ?_;refine bj (i:=10) (v:=.int .i64 (wr 3)) (by kernel_rfl) rfl (by kernel_rfl) (fun _ _ _ h=>h) (.inl ⟨by rfl,?_⟩) aX ?_
 ·intro w hSw;have hq:=hSw.1.ag (i:=3) (v:=.int .i64 (wr 3)) rfl;clear hSw;go_simp;(try with_reducible rfl)
 refine sd ?_;refine eZ [15,16,17] ?_;refine bj (i:=18) (v:=.agg (dY sh)) (by kernel_rfl) rfl (by kernel_rfl) (fun _ _ _ h=>h) (yieldsIf_load_mid (by rfl) 74 _ rfl sb 0 rfl (dY sh).toList _ (fun w hw j v hj=>by rw[Nat.zero_add];exact hw.2.ag (stoC_shape hj)) Tryz.underlying74 rfl (by kernel_rfl)) (by assumption) ?_;refine sd ?_;refine eZ [19] ?_;refine bj (i:=20) (v:=.int .i64 (wr 4)) (by kernel_rfl) rfl (by kernel_rfl) (fun _ _ _ h=>h) (.inl ⟨by rfl,?_⟩) aX ?_
 ·intro w hSw;have hq:=hSw.1.ag (i:=4) (v:=.int .i64 (wr 4)) rfl;clear hSw;go_simp;(try with_reducible rfl)
 refine sd ?_;refine eZ [22,23,24] ?_;refine bj (i:=25) (v:=.agg (dY sh)) (by kernel_rfl) rfl (by kernel_rfl) (fun _ _ _ h=>h) (yieldsIf_load_mid (by rfl) 74 _ rfl sb 0 rfl (dY sh).toList _ (fun w hw j v hj=>by rw[Nat.zero_add];exact hw.2.ag (stoC_shape hj)) Tryz.underlying74 rfl (by kernel_rfl)) (by assumption) ?_;refine sd ?_;refine eZ [26] ?_;refine bj (i:=27) (v:=.int .i64 (wr 0)) (by kernel_rfl) rfl (by kernel_rfl) (fun _ _ _ h=>h) (.inl ⟨by rfl,?_⟩) aX ?_
 ·intro w hSw;have hq:=hSw.1.ag (i:=0) (v:=.int .i64 (wr 0)) rfl;clear hSw;go_simp;(try with_reducible rfl)
 refine sd ?_;refine eZ [28] ?_;refine bj (i:=29) (v:=.int .i64 (wr 1)) (by kernel_rfl) rfl (by kernel_rfl) (fun _ _ _ h=>h) (.inl ⟨by rfl,?_⟩) aX ?_
 ·intro w hSw;have hq:=hSw.1.ag (i:=1) (v:=.int .i64 (wr 1)) rfl;clear hSw;go_simp;(try with_reducible rfl)
 refine sd ?_;refine vu (i:=2) (j:=11) rfl rfl (by kernel_rfl) (fun KcZq hK=>?_) (fun KcZq hK=>?_)
 ·go_simp;clear aX;change KcZq _ (W1.drew.alloc (.cells #[.int .i64 (v:Nat)] 3));have ho:=(af.ak aA W1.drew).alloc (.cells #[.int .i64 (v:Nat)] 3);have bx:Box (W1.drew.alloc (.cells #[.int .i64 (v:Nat)] 3)) W1.heap.size 3 #[.int .i64 (v:Nat)]:=Box.fresh W1.drew 3 #[.int .i64 (v:Nat)];have HGQ:w.heap.size≤W1.heap.size:=Pp.size;generalize W1.drew.alloc (.cells #[.int .i64 (v:Nat)] 3)=W2 at *
  replace MD:=aH (Box W2 wb 110 (Cx wr dv)) (ho.az (MD) id)
  replace Io:=aH (gF W2 sb db lb V sh d) ((Io).keep ho)
  replace Pp:=aH (af aA w W2) ((Pp).trans ho)
  replace HDT:=aH (b8 W2 dv t) ((HDT).ao ho fun _ _=>id)
  generalize W1.heap.size=g2 at *;have Mt:=aH (w.heap.size≤g2) (HGQ);have LW:=ae bx;clear ho bx HGQ;refine lj hK ?_ fun aX=>?_
  ·first|exact DQ|exact⟨MD,Io.az⟩
  clear hK;refine vu (i:=3) (j:=11) rfl rfl (by kernel_rfl) (fun KcZq hK=>?_) (fun KcZq hK=>?_)
  ·go_simp;clear aX;have HGQ:=Pp.size;refine(does_num LW HV).mono ?_;rintro e W3 ⟨v3,rfl,hr,ho,hb⟩
   replace MD:=aH (Box W3 wb 110 (Cx wr dv)) (ho.az (MD) id)
   replace Io:=aH (gF W3 sb db lb V sh d) ((Io).keep ho)
   replace Pp:=aH (af aA w W3) ((Pp).trans ho)
   replace HDT:=aH (b8 W3 dv t) ((HDT).ao ho fun _ _=>id)
   replace LW:=aH (Box W3 g2 3 #[.int .i64 (v:Nat)]) (ho.az (LW) id)
   have B6:=ae hr;have kj:=aH (∀k,aJ v3 k→w.heap.size≤k) (fun k hk=>Nat.le_trans HGQ (hb k hk));clear hr ho hb HGQ;refine lj hK ?_ fun aX=>?_
   ·first|exact DQ|exact⟨MD,Io.az⟩
   clear hK;refine vu (i:=6) (j:=11) rfl rfl (by kernel_rfl) (fun KcZq hK=>?_) (fun KcZq hK=>?_)
   ·go_simp;clear aX;have HGQ:=Pp.size;refine(does_txt B6 HDT FR).mono ?_;rintro e W6 ⟨v6,rfl,hr,ho,hb⟩;obtain⟨A6Zq,c6,e6,hcc,w9⟩:=hr.shape;subst e6;clear hcc w9;generalize(bytes (blkB v t)).length=n6 at hr hb ⊢
    replace MD:=aH (Box W6 wb 110 (Cx wr dv)) (ho.az (MD) id)
    replace Io:=aH (gF W6 sb db lb V sh d) ((Io).keep ho)
    replace Pp:=aH (af aA w W6) ((Pp).trans ho)
    replace HDT:=aH (b8 W6 dv t) ((HDT).ao ho fun _ _=>id)
    replace B6:=aH (Row 5 W6 v3 (bytes (catS [v]))) ((B6).ao ho fun _ _=>id)
    have FU:=ae hr;have F9:=aH (∀k,aJ (.slice A6Zq n6 c6) k→w.heap.size≤k) (fun k hk=>Nat.le_trans HGQ (hb k hk));clear hr ho hb HGQ;refine lj hK ?_ fun aX=>?_
    ·first|exact DQ|exact⟨MD,Io.az⟩
    clear hK;refine lh 11 fun KcZq hK=>?_
    go_simp;clear aX;change KcZq _ (W6.alloc (.cells #[.int .i64 (wr 2),.int .i64 (wr 3),.int .i64 0] 3));have ho:=(af.ak aA W6).alloc (.cells #[.int .i64 (wr 2),.int .i64 (wr 3),.int .i64 0] 3);have bx:Box (W6.alloc (.cells #[.int .i64 (wr 2),.int .i64 (wr 3),.int .i64 0] 3)) W6.heap.size 3 #[.int .i64 (wr 2),.int .i64 (wr 3),.int .i64 0]:=Box.fresh W6 3 #[.int .i64 (wr 2),.int .i64 (wr 3),.int .i64 0];have HGQ:w.heap.size≤W6.heap.size:=Pp.size;generalize W6.alloc (.cells #[.int .i64 (wr 2),.int .i64 (wr 3),.int .i64 0] 3)=Lb at *
    replace MD:=aH (Box Lb wb 110 (Cx wr dv)) (ho.az (MD) id)
    replace Io:=aH (gF Lb sb db lb V sh d) ((Io).keep ho)
    replace Pp:=aH (af aA w Lb) ((Pp).trans ho)
    replace HDT:=aH (b8 Lb dv t) ((HDT).ao ho fun _ _=>id)
    replace FU:=aH (Row 5 Lb (.slice A6Zq n6 c6) (bytes (blkB v t))) ((FU).ao ho fun _ _=>id)
    generalize W6.heap.size=g11 at *;have HG11:=aH (w.heap.size≤g11) (HGQ);have HX11:=ae bx;clear ho bx HGQ;refine lj hK ?_ fun aX=>?_
    ·first|exact DQ|exact⟨MD,Io.az⟩
    clear hK;refine lh 12 fun KcZq hK=>?_
    go_simp;clear aX;have HGQ:=Pp.size;refine(does_num3 HX11 HF).mono ?_;rintro e La ⟨v12,rfl,hr,ho,hb⟩;obtain⟨A12,OJ,K6,hcc,w9⟩:=hr.shape;subst K6;clear hcc w9;generalize(bytes (catS [(wr 2).toNat,(wr 3).toNat,0])).length=n12 at hr hb ⊢
    replace MD:=aH (Box La wb 110 (Cx wr dv)) (ho.az (MD) id)
    replace Io:=aH (gF La sb db lb V sh d) ((Io).keep ho)
    replace Pp:=aH (af aA w La) ((Pp).trans ho)
    replace HDT:=aH (b8 La dv t) ((HDT).ao ho fun _ _=>id)
    replace FU:=aH (Row 5 La (.slice A6Zq n6 c6) (bytes (blkB v t))) ((FU).ao ho fun _ _=>id)
    replace HX11:=aH (Box La g11 3 #[.int .i64 (wr 2),.int .i64 (wr 3),.int .i64 0]) (ho.az (HX11) id)
    have HR12:=ae hr;have HB12:=aH (∀k,aJ (.slice A12 n12 OJ) k→w.heap.size≤k) (fun k hk=>Nat.le_trans HGQ (hb k hk));clear hr ho hb HGQ;refine lj hK ?_ fun aX=>?_
    ·first|exact DQ|exact⟨MD,Io.az⟩
    clear hK;refine lh 13 fun KcZq hK=>?_
    go_simp;clear aX;change KcZq _ (La.alloc (.cells #[.slice A6Zq n6 c6,.slice A12 n12 OJ,.slice none 0 0] 35));have ho:=(af.ak aA La).alloc (.cells #[.slice A6Zq n6 c6,.slice A12 n12 OJ,.slice none 0 0] 35);have bx:Box (La.alloc (.cells #[.slice A6Zq n6 c6,.slice A12 n12 OJ,.slice none 0 0] 35)) La.heap.size 35 #[.slice A6Zq n6 c6,.slice A12 n12 OJ,.slice none 0 0]:=Box.fresh La 35 #[.slice A6Zq n6 c6,.slice A12 n12 OJ,.slice none 0 0];have HGQ:w.heap.size≤La.heap.size:=Pp.size;generalize La.alloc (.cells #[.slice A6Zq n6 c6,.slice A12 n12 OJ,.slice none 0 0] 35)=K9 at *
    replace MD:=aH (Box K9 wb 110 (Cx wr dv)) (ho.az (MD) id)
    replace Io:=aH (gF K9 sb db lb V sh d) ((Io).keep ho)
    replace Pp:=aH (af aA w K9) ((Pp).trans ho)
    replace HDT:=aH (b8 K9 dv t) ((HDT).ao ho fun _ _=>id)
    replace FU:=aH (Row 5 K9 (.slice A6Zq n6 c6) (bytes (blkB v t))) ((FU).ao ho fun _ _=>id)
    replace HR12:=aH (Row 5 K9 (.slice A12 n12 OJ) (bytes (catS [(wr 2).toNat,(wr 3).toNat,0]))) ((HR12).ao ho fun _ _=>id)
    generalize La.heap.size=g13 at *;have HG13:=aH (w.heap.size≤g13) (HGQ);have HX13:=ae bx;clear ho bx HGQ;refine lj hK ?_ fun aX=>?_
    ·first|exact DQ|exact⟨MD,Io.az⟩
    clear hK;refine lh 14 fun KcZq hK=>?_
    go_simp;clear aX;have HGQ:=Pp.size;refine(sto_writes _).mono ?_;rintro e QZ ⟨sxZq,lxZq,rfl,hsx,hlx,bx1,bx2,ho⟩
    replace MD:=aH (Box QZ wb 110 (Cx wr dv)) (ho.az (MD) id)
    replace Io:=aH (gF QZ sb db lb V sh d) ((Io).keep ho)
    replace Pp:=aH (af aA w QZ) ((Pp).trans ho)
    replace HDT:=aH (b8 QZ dv t) ((HDT).ao ho fun _ _=>id)
    replace FU:=aH (Row 5 QZ (.slice A6Zq n6 c6) (bytes (blkB v t))) ((FU).ao ho fun _ _=>id)
    replace HR12:=aH (Row 5 QZ (.slice A12 n12 OJ) (bytes (catS [(wr 2).toNat,(wr 3).toNat,0]))) ((HR12).ao ho fun _ _=>id)
    replace HX13:=aH (Box QZ g13 35 #[.slice A6Zq n6 c6,.slice A12 n12 OJ,.slice none 0 0]) (ho.az (HX13) id)
    have HX14a:=ae bx1;have HX14b:=ae bx2;have HL14:=aH (w.heap.size≤sxZq∧w.heap.size≤lxZq) (⟨Nat.le_trans HGQ hsx,Nat.le_trans HGQ hlx⟩);clear hsx hlx bx1 bx2 ho HGQ;refine lj hK ?_ fun aX=>?_
    ·first|exact DQ|exact⟨MD,Io.az⟩
    clear hK;refine lh 21 fun KcZq hK=>?_
    go_simp;clear aX;refine(HA _).mono ?_;rintro e W21 ⟨rfl,ho⟩
    replace MD:=aH (Box W21 wb 110 (Cx wr dv)) (ho.az (MD) id)
    replace Io:=aH (gF W21 sb db lb V sh d) ((Io).keep ho)
    replace Pp:=aH (af aA w W21) ((Pp).trans ho)
    replace HDT:=aH (b8 W21 dv t) ((HDT).ao ho fun _ _=>id)
    replace FU:=aH (Row 5 W21 (.slice A6Zq n6 c6) (bytes (blkB v t))) ((FU).ao ho fun _ _=>id)
    replace HR12:=aH (Row 5 W21 (.slice A12 n12 OJ) (bytes (catS [(wr 2).toNat,(wr 3).toNat,0]))) ((HR12).ao ho fun _ _=>id)
    replace HX13:=aH (Box W21 g13 35 #[.slice A6Zq n6 c6,.slice A12 n12 OJ,.slice none 0 0]) (ho.az (HX13) id)
    replace HX14a:=aH (Box W21 sxZq 70 #[.pointer (some ⟨sb,0,none⟩)]) (ho.az (HX14a) id)
    replace HX14b:=aH (Box W21 lxZq 60 #[.slice (some ⟨g13,0,none⟩) 3 3]) (ho.az (HX14b) id)
    clear ho;refine lj hK ?_ fun aX=>?_
    ·first|exact DQ|exact⟨MD,Io.az⟩
    clear hK;refine lh 30 fun KcZq hK=>?_
    go_simp;clear aX;refine(HSL _).mono ?_;rintro e W30 ⟨rfl,ho⟩
    replace MD:=aH (Box W30 wb 110 (Cx wr dv)) (ho.az (MD) id)
    replace Io:=aH (gF W30 sb db lb V sh d) ((Io).keep ho)
    replace Pp:=aH (af aA w W30) ((Pp).trans ho)
    replace HDT:=aH (b8 W30 dv t) ((HDT).ao ho fun _ _=>id)
    replace FU:=aH (Row 5 W30 (.slice A6Zq n6 c6) (bytes (blkB v t))) ((FU).ao ho fun _ _=>id)
    replace HR12:=aH (Row 5 W30 (.slice A12 n12 OJ) (bytes (catS [(wr 2).toNat,(wr 3).toNat,0]))) ((HR12).ao ho fun _ _=>id)
    replace HX13:=aH (Box W30 g13 35 #[.slice A6Zq n6 c6,.slice A12 n12 OJ,.slice none 0 0]) (ho.az (HX13) id)
    replace HX14a:=aH (Box W30 sxZq 70 #[.pointer (some ⟨sb,0,none⟩)]) (ho.az (HX14a) id)
    replace HX14b:=aH (Box W30 lxZq 60 #[.slice (some ⟨g13,0,none⟩) 3 3]) (ho.az (HX14b) id)
    clear ho;refine lj hK ?_ fun aX=>?_
    ·first|exact DQ|exact⟨MD,Io.az⟩
    clear hK;refine lh 31 fun KcZq hK=>?_
    go_simp;clear aX;change KcZq _ (W30.alloc (.cells #[.int .i64 (1+wr 4),.int .i64 (1+sh 0+sh 3*wr 0+wr 1),.int .i64 0] 3));have ho:=(af.ak aA W30).alloc (.cells #[.int .i64 (1+wr 4),.int .i64 (1+sh 0+sh 3*wr 0+wr 1),.int .i64 0] 3);have bx:Box (W30.alloc (.cells #[.int .i64 (1+wr 4),.int .i64 (1+sh 0+sh 3*wr 0+wr 1),.int .i64 0] 3)) W30.heap.size 3 #[.int .i64 (1+wr 4),.int .i64 (1+sh 0+sh 3*wr 0+wr 1),.int .i64 0]:=Box.fresh W30 3 #[.int .i64 (1+wr 4),.int .i64 (1+sh 0+sh 3*wr 0+wr 1),.int .i64 0];have HGQ:w.heap.size≤W30.heap.size:=Pp.size;generalize W30.alloc (.cells #[.int .i64 (1+wr 4),.int .i64 (1+sh 0+sh 3*wr 0+wr 1),.int .i64 0] 3)=W31 at *
    replace MD:=aH (Box W31 wb 110 (Cx wr dv)) (ho.az (MD) id)
    replace Io:=aH (gF W31 sb db lb V sh d) ((Io).keep ho)
    replace Pp:=aH (af aA w W31) ((Pp).trans ho)
    replace HDT:=aH (b8 W31 dv t) ((HDT).ao ho fun _ _=>id)
    replace FU:=aH (Row 5 W31 (.slice A6Zq n6 c6) (bytes (blkB v t))) ((FU).ao ho fun _ _=>id)
    replace HR12:=aH (Row 5 W31 (.slice A12 n12 OJ) (bytes (catS [(wr 2).toNat,(wr 3).toNat,0]))) ((HR12).ao ho fun _ _=>id)
    replace HX13:=aH (Box W31 g13 35 #[.slice A6Zq n6 c6,.slice A12 n12 OJ,.slice none 0 0]) (ho.az (HX13) id)
    replace HX14a:=aH (Box W31 sxZq 70 #[.pointer (some ⟨sb,0,none⟩)]) (ho.az (HX14a) id)
    replace HX14b:=aH (Box W31 lxZq 60 #[.slice (some ⟨g13,0,none⟩) 3 3]) (ho.az (HX14b) id)
    generalize W30.heap.size=g31 at *;have HG31:=aH (w.heap.size≤g31) (HGQ);have HX31:=ae bx;clear ho bx HGQ;refine lj hK ?_ fun aX=>?_
    ·first|exact DQ|exact⟨MD,Io.az⟩
    clear hK;refine lh 32 fun KcZq hK=>?_
    go_simp;clear aX;refine(does_close HH Pp Io HX14a HX14b HX13 HX31 FU HR12 HF MF HV FR Mo F9 HB12 HG13 HG31 HL14).mono ?_;rintro e W32 ⟨rfl,hp,ho⟩;have DQ:Box W32 wb 110 (Cx wr dv)∧Box W32 sb 108 (p7 sh db):=⟨ho.az MD (fun e=>by have h1:=De.out;have h2:=HH.B1.lt (.inl rfl);have h3:=HH.B1.lt (.inr (.inl rfl));rcases e with e|e<;>omega),by obtain⟨V2,a2,_,_⟩:=id hp;exact a2.az⟩;clear ho;refine lj hK ?_ fun aX=>?_
    ·first|exact DQ|exact⟨MD,Io.az⟩
    clear hK;refine jz ?_;go_wp2_with fail;go_ret;exact⟨rfl,hp⟩
   ·go_simp;clear aX;change KcZq _ (W3.alloc (.cells #[.int .i64 (wr 2),.int .i64 (wr 3),.int .i64 0] 3));have ho:=(af.ak aA W3).alloc (.cells #[.int .i64 (wr 2),.int .i64 (wr 3),.int .i64 0] 3);have bx:Box (W3.alloc (.cells #[.int .i64 (wr 2),.int .i64 (wr 3),.int .i64 0] 3)) W3.heap.size 3 #[.int .i64 (wr 2),.int .i64 (wr 3),.int .i64 0]:=Box.fresh W3 3 #[.int .i64 (wr 2),.int .i64 (wr 3),.int .i64 0];have HGQ:w.heap.size≤W3.heap.size:=Pp.size;generalize W3.alloc (.cells #[.int .i64 (wr 2),.int .i64 (wr 3),.int .i64 0] 3)=Lb at *
    replace MD:=aH (Box Lb wb 110 (Cx wr dv)) (ho.az (MD) id)
    replace Io:=aH (gF Lb sb db lb V sh d) ((Io).keep ho)
    replace Pp:=aH (af aA w Lb) ((Pp).trans ho)
    replace HDT:=aH (b8 Lb dv t) ((HDT).ao ho fun _ _=>id)
    replace B6:=aH (Row 5 Lb v3 (bytes (catS [v]))) ((B6).ao ho fun _ _=>id)
    generalize W3.heap.size=g11 at *;have HG11:=aH (w.heap.size≤g11) (HGQ);have HX11:=ae bx;clear ho bx HGQ;refine lj hK ?_ fun aX=>?_
    ·first|exact DQ|exact⟨MD,Io.az⟩
    clear hK;refine lh 6 fun KcZq hK=>?_
    go_simp;clear aX;have HGQ:=Pp.size;refine(does_txt B6 HDT FR).mono ?_;rintro e W6 ⟨v6,rfl,hr,ho,hb⟩;obtain⟨A6Zq,c6,e6,hcc,w9⟩:=hr.shape;subst e6;clear hcc w9;generalize(bytes (blkB v t)).length=n6 at hr hb ⊢
    replace MD:=aH (Box W6 wb 110 (Cx wr dv)) (ho.az (MD) id)
    replace Io:=aH (gF W6 sb db lb V sh d) ((Io).keep ho)
    replace Pp:=aH (af aA w W6) ((Pp).trans ho)
    replace HDT:=aH (b8 W6 dv t) ((HDT).ao ho fun _ _=>id)
    replace B6:=aH (Row 5 W6 v3 (bytes (catS [v]))) ((B6).ao ho fun _ _=>id)
    replace HX11:=aH (Box W6 g11 3 #[.int .i64 (wr 2),.int .i64 (wr 3),.int .i64 0]) (ho.az (HX11) id)
    have FU:=ae hr;have F9:=aH (∀k,aJ (.slice A6Zq n6 c6) k→w.heap.size≤k) (fun k hk=>Nat.le_trans HGQ (hb k hk));clear hr ho hb HGQ;refine lj hK ?_ fun aX=>?_
    ·first|exact DQ|exact⟨MD,Io.az⟩
    clear hK;refine lh 12 fun KcZq hK=>?_
    go_simp;clear aX;have HGQ:=Pp.size;refine(does_num3 HX11 HF).mono ?_;rintro e La ⟨v12,rfl,hr,ho,hb⟩;obtain⟨A12,OJ,K6,hcc,w9⟩:=hr.shape;subst K6;clear hcc w9;generalize(bytes (catS [(wr 2).toNat,(wr 3).toNat,0])).length=n12 at hr hb ⊢
    replace MD:=aH (Box La wb 110 (Cx wr dv)) (ho.az (MD) id)
    replace Io:=aH (gF La sb db lb V sh d) ((Io).keep ho)
    replace Pp:=aH (af aA w La) ((Pp).trans ho)
    replace HDT:=aH (b8 La dv t) ((HDT).ao ho fun _ _=>id)
    replace HX11:=aH (Box La g11 3 #[.int .i64 (wr 2),.int .i64 (wr 3),.int .i64 0]) (ho.az (HX11) id)
    replace FU:=aH (Row 5 La (.slice A6Zq n6 c6) (bytes (blkB v t))) ((FU).ao ho fun _ _=>id)
    have HR12:=ae hr;have HB12:=aH (∀k,aJ (.slice A12 n12 OJ) k→w.heap.size≤k) (fun k hk=>Nat.le_trans HGQ (hb k hk));clear hr ho hb HGQ;refine lj hK ?_ fun aX=>?_
    ·first|exact DQ|exact⟨MD,Io.az⟩
    clear hK;refine lh 13 fun KcZq hK=>?_
    go_simp;clear aX;change KcZq _ (La.alloc (.cells #[.slice A6Zq n6 c6,.slice A12 n12 OJ,.slice none 0 0] 35));have ho:=(af.ak aA La).alloc (.cells #[.slice A6Zq n6 c6,.slice A12 n12 OJ,.slice none 0 0] 35);have bx:Box (La.alloc (.cells #[.slice A6Zq n6 c6,.slice A12 n12 OJ,.slice none 0 0] 35)) La.heap.size 35 #[.slice A6Zq n6 c6,.slice A12 n12 OJ,.slice none 0 0]:=Box.fresh La 35 #[.slice A6Zq n6 c6,.slice A12 n12 OJ,.slice none 0 0];have HGQ:w.heap.size≤La.heap.size:=Pp.size;generalize La.alloc (.cells #[.slice A6Zq n6 c6,.slice A12 n12 OJ,.slice none 0 0] 35)=K9 at *
    replace MD:=aH (Box K9 wb 110 (Cx wr dv)) (ho.az (MD) id)
    replace Io:=aH (gF K9 sb db lb V sh d) ((Io).keep ho)
    replace Pp:=aH (af aA w K9) ((Pp).trans ho)
    replace HDT:=aH (b8 K9 dv t) ((HDT).ao ho fun _ _=>id)
    replace FU:=aH (Row 5 K9 (.slice A6Zq n6 c6) (bytes (blkB v t))) ((FU).ao ho fun _ _=>id)
    replace HR12:=aH (Row 5 K9 (.slice A12 n12 OJ) (bytes (catS [(wr 2).toNat,(wr 3).toNat,0]))) ((HR12).ao ho fun _ _=>id)
    generalize La.heap.size=g13 at *;have HG13:=aH (w.heap.size≤g13) (HGQ);have HX13:=ae bx;clear ho bx HGQ;refine lj hK ?_ fun aX=>?_
    ·first|exact DQ|exact⟨MD,Io.az⟩
    clear hK;refine lh 14 fun KcZq hK=>?_
    go_simp;clear aX;have HGQ:=Pp.size;refine(sto_writes _).mono ?_;rintro e QZ ⟨sxZq,lxZq,rfl,hsx,hlx,bx1,bx2,ho⟩
    replace MD:=aH (Box QZ wb 110 (Cx wr dv)) (ho.az (MD) id)
    replace Io:=aH (gF QZ sb db lb V sh d) ((Io).keep ho)
    replace Pp:=aH (af aA w QZ) ((Pp).trans ho)
    replace HDT:=aH (b8 QZ dv t) ((HDT).ao ho fun _ _=>id)
    replace FU:=aH (Row 5 QZ (.slice A6Zq n6 c6) (bytes (blkB v t))) ((FU).ao ho fun _ _=>id)
    replace HR12:=aH (Row 5 QZ (.slice A12 n12 OJ) (bytes (catS [(wr 2).toNat,(wr 3).toNat,0]))) ((HR12).ao ho fun _ _=>id)
    replace HX13:=aH (Box QZ g13 35 #[.slice A6Zq n6 c6,.slice A12 n12 OJ,.slice none 0 0]) (ho.az (HX13) id)
    have HX14a:=ae bx1;have HX14b:=ae bx2;have HL14:=aH (w.heap.size≤sxZq∧w.heap.size≤lxZq) (⟨Nat.le_trans HGQ hsx,Nat.le_trans HGQ hlx⟩);clear hsx hlx bx1 bx2 ho HGQ;refine lj hK ?_ fun aX=>?_
    ·first|exact DQ|exact⟨MD,Io.az⟩
    clear hK;refine lh 21 fun KcZq hK=>?_
    go_simp;clear aX;refine(HA _).mono ?_;rintro e W21 ⟨rfl,ho⟩
    replace MD:=aH (Box W21 wb 110 (Cx wr dv)) (ho.az (MD) id)
    replace Io:=aH (gF W21 sb db lb V sh d) ((Io).keep ho)
    replace Pp:=aH (af aA w W21) ((Pp).trans ho)
    replace HDT:=aH (b8 W21 dv t) ((HDT).ao ho fun _ _=>id)
    replace FU:=aH (Row 5 W21 (.slice A6Zq n6 c6) (bytes (blkB v t))) ((FU).ao ho fun _ _=>id)
    replace HR12:=aH (Row 5 W21 (.slice A12 n12 OJ) (bytes (catS [(wr 2).toNat,(wr 3).toNat,0]))) ((HR12).ao ho fun _ _=>id)
    replace HX13:=aH (Box W21 g13 35 #[.slice A6Zq n6 c6,.slice A12 n12 OJ,.slice none 0 0]) (ho.az (HX13) id)
    replace HX14a:=aH (Box W21 sxZq 70 #[.pointer (some ⟨sb,0,none⟩)]) (ho.az (HX14a) id)
    replace HX14b:=aH (Box W21 lxZq 60 #[.slice (some ⟨g13,0,none⟩) 3 3]) (ho.az (HX14b) id)
    clear ho;refine lj hK ?_ fun aX=>?_
    ·first|exact DQ|exact⟨MD,Io.az⟩
    clear hK;refine lh 30 fun KcZq hK=>?_
    go_simp;clear aX;refine(HSL _).mono ?_;rintro e W30 ⟨rfl,ho⟩
    replace MD:=aH (Box W30 wb 110 (Cx wr dv)) (ho.az (MD) id)
    replace Io:=aH (gF W30 sb db lb V sh d) ((Io).keep ho)
    replace Pp:=aH (af aA w W30) ((Pp).trans ho)
    replace HDT:=aH (b8 W30 dv t) ((HDT).ao ho fun _ _=>id)
    replace FU:=aH (Row 5 W30 (.slice A6Zq n6 c6) (bytes (blkB v t))) ((FU).ao ho fun _ _=>id)
    replace HR12:=aH (Row 5 W30 (.slice A12 n12 OJ) (bytes (catS [(wr 2).toNat,(wr 3).toNat,0]))) ((HR12).ao ho fun _ _=>id)
    replace HX13:=aH (Box W30 g13 35 #[.slice A6Zq n6 c6,.slice A12 n12 OJ,.slice none 0 0]) (ho.az (HX13) id)
    replace HX14a:=aH (Box W30 sxZq 70 #[.pointer (some ⟨sb,0,none⟩)]) (ho.az (HX14a) id)
    replace HX14b:=aH (Box W30 lxZq 60 #[.slice (some ⟨g13,0,none⟩) 3 3]) (ho.az (HX14b) id)
    clear ho;refine lj hK ?_ fun aX=>?_
    ·first|exact DQ|exact⟨MD,Io.az⟩
    clear hK;refine lh 31 fun KcZq hK=>?_
    go_simp;clear aX;change KcZq _ (W30.alloc (.cells #[.int .i64 (1+wr 4),.int .i64 (1+sh 0+sh 3*wr 0+wr 1),.int .i64 0] 3));have ho:=(af.ak aA W30).alloc (.cells #[.int .i64 (1+wr 4),.int .i64 (1+sh 0+sh 3*wr 0+wr 1),.int .i64 0] 3);have bx:Box (W30.alloc (.cells #[.int .i64 (1+wr 4),.int .i64 (1+sh 0+sh 3*wr 0+wr 1),.int .i64 0] 3)) W30.heap.size 3 #[.int .i64 (1+wr 4),.int .i64 (1+sh 0+sh 3*wr 0+wr 1),.int .i64 0]:=Box.fresh W30 3 #[.int .i64 (1+wr 4),.int .i64 (1+sh 0+sh 3*wr 0+wr 1),.int .i64 0];have HGQ:w.heap.size≤W30.heap.size:=Pp.size;generalize W30.alloc (.cells #[.int .i64 (1+wr 4),.int .i64 (1+sh 0+sh 3*wr 0+wr 1),.int .i64 0] 3)=W31 at *
    replace MD:=aH (Box W31 wb 110 (Cx wr dv)) (ho.az (MD) id)
    replace Io:=aH (gF W31 sb db lb V sh d) ((Io).keep ho)
    replace Pp:=aH (af aA w W31) ((Pp).trans ho)
    replace HDT:=aH (b8 W31 dv t) ((HDT).ao ho fun _ _=>id)
    replace FU:=aH (Row 5 W31 (.slice A6Zq n6 c6) (bytes (blkB v t))) ((FU).ao ho fun _ _=>id)
    replace HR12:=aH (Row 5 W31 (.slice A12 n12 OJ) (bytes (catS [(wr 2).toNat,(wr 3).toNat,0]))) ((HR12).ao ho fun _ _=>id)
    replace HX13:=aH (Box W31 g13 35 #[.slice A6Zq n6 c6,.slice A12 n12 OJ,.slice none 0 0]) (ho.az (HX13) id)
    replace HX14a:=aH (Box W31 sxZq 70 #[.pointer (some ⟨sb,0,none⟩)]) (ho.az (HX14a) id)
    replace HX14b:=aH (Box W31 lxZq 60 #[.slice (some ⟨g13,0,none⟩) 3 3]) (ho.az (HX14b) id)
    generalize W30.heap.size=g31 at *;have HG31:=aH (w.heap.size≤g31) (HGQ);have HX31:=ae bx;clear ho bx HGQ;refine lj hK ?_ fun aX=>?_
    ·first|exact DQ|exact⟨MD,Io.az⟩
    clear hK;refine lh 32 fun KcZq hK=>?_
    go_simp;clear aX;refine(does_close HH Pp Io HX14a HX14b HX13 HX31 FU HR12 HF MF HV FR Mo F9 HB12 HG13 HG31 HL14).mono ?_;rintro e W32 ⟨rfl,hp,ho⟩;have DQ:Box W32 wb 110 (Cx wr dv)∧Box W32 sb 108 (p7 sh db):=⟨ho.az MD (fun e=>by have h1:=De.out;have h2:=HH.B1.lt (.inl rfl);have h3:=HH.B1.lt (.inr (.inl rfl));rcases e with e|e<;>omega),by obtain⟨V2,a2,_,_⟩:=id hp;exact a2.az⟩;clear ho;refine lj hK ?_ fun aX=>?_
    ·first|exact DQ|exact⟨MD,Io.az⟩
    clear hK;refine jz ?_;go_wp2_with fail;go_ret;exact⟨rfl,hp⟩
  ·go_simp;clear aX;change KcZq _ (W2.alloc (.cells #[.int .i64 (wr 2),.int .i64 (wr 3),.int .i64 0] 3));have ho:=(af.ak aA W2).alloc (.cells #[.int .i64 (wr 2),.int .i64 (wr 3),.int .i64 0] 3);have bx:Box (W2.alloc (.cells #[.int .i64 (wr 2),.int .i64 (wr 3),.int .i64 0] 3)) W2.heap.size 3 #[.int .i64 (wr 2),.int .i64 (wr 3),.int .i64 0]:=Box.fresh W2 3 #[.int .i64 (wr 2),.int .i64 (wr 3),.int .i64 0];have HGQ:w.heap.size≤W2.heap.size:=Pp.size;generalize W2.alloc (.cells #[.int .i64 (wr 2),.int .i64 (wr 3),.int .i64 0] 3)=Lb at *
   replace MD:=aH (Box Lb wb 110 (Cx wr dv)) (ho.az (MD) id)
   replace Io:=aH (gF Lb sb db lb V sh d) ((Io).keep ho)
   replace Pp:=aH (af aA w Lb) ((Pp).trans ho)
   replace HDT:=aH (b8 Lb dv t) ((HDT).ao ho fun _ _=>id)
   replace LW:=aH (Box Lb g2 3 #[.int .i64 (v:Nat)]) (ho.az (LW) id)
   generalize W2.heap.size=g11 at *;have HG11:=aH (w.heap.size≤g11) (HGQ);have HX11:=ae bx;clear ho bx HGQ;refine lj hK ?_ fun aX=>?_
   ·first|exact DQ|exact⟨MD,Io.az⟩
   clear hK;refine lh 3 fun KcZq hK=>?_
   go_simp;clear aX;have HGQ:=Pp.size;refine(does_num LW HV).mono ?_;rintro e W3 ⟨v3,rfl,hr,ho,hb⟩
   replace MD:=aH (Box W3 wb 110 (Cx wr dv)) (ho.az (MD) id)
   replace Io:=aH (gF W3 sb db lb V sh d) ((Io).keep ho)
   replace Pp:=aH (af aA w W3) ((Pp).trans ho)
   replace HDT:=aH (b8 W3 dv t) ((HDT).ao ho fun _ _=>id)
   replace LW:=aH (Box W3 g2 3 #[.int .i64 (v:Nat)]) (ho.az (LW) id)
   replace HX11:=aH (Box W3 g11 3 #[.int .i64 (wr 2),.int .i64 (wr 3),.int .i64 0]) (ho.az (HX11) id)
   have B6:=ae hr;have kj:=aH (∀k,aJ v3 k→w.heap.size≤k) (fun k hk=>Nat.le_trans HGQ (hb k hk));clear hr ho hb HGQ;refine lj hK ?_ fun aX=>?_
   ·first|exact DQ|exact⟨MD,Io.az⟩
   clear hK;refine lh 6 fun KcZq hK=>?_
   go_simp;clear aX;have HGQ:=Pp.size;refine(does_txt B6 HDT FR).mono ?_;rintro e W6 ⟨v6,rfl,hr,ho,hb⟩;obtain⟨A6Zq,c6,e6,hcc,w9⟩:=hr.shape;subst e6;clear hcc w9;generalize(bytes (blkB v t)).length=n6 at hr hb ⊢
   replace MD:=aH (Box W6 wb 110 (Cx wr dv)) (ho.az (MD) id)
   replace Io:=aH (gF W6 sb db lb V sh d) ((Io).keep ho)
   replace Pp:=aH (af aA w W6) ((Pp).trans ho)
   replace HDT:=aH (b8 W6 dv t) ((HDT).ao ho fun _ _=>id)
   replace HX11:=aH (Box W6 g11 3 #[.int .i64 (wr 2),.int .i64 (wr 3),.int .i64 0]) (ho.az (HX11) id)
   replace B6:=aH (Row 5 W6 v3 (bytes (catS [v]))) ((B6).ao ho fun _ _=>id)
   have FU:=ae hr;have F9:=aH (∀k,aJ (.slice A6Zq n6 c6) k→w.heap.size≤k) (fun k hk=>Nat.le_trans HGQ (hb k hk));clear hr ho hb HGQ;refine lj hK ?_ fun aX=>?_
   ·first|exact DQ|exact⟨MD,Io.az⟩
   clear hK;refine lh 12 fun KcZq hK=>?_
   go_simp;clear aX;have HGQ:=Pp.size;refine(does_num3 HX11 HF).mono ?_;rintro e La ⟨v12,rfl,hr,ho,hb⟩;obtain⟨A12,OJ,K6,hcc,w9⟩:=hr.shape;subst K6;clear hcc w9;generalize(bytes (catS [(wr 2).toNat,(wr 3).toNat,0])).length=n12 at hr hb ⊢
   replace MD:=aH (Box La wb 110 (Cx wr dv)) (ho.az (MD) id)
   replace Io:=aH (gF La sb db lb V sh d) ((Io).keep ho)
   replace Pp:=aH (af aA w La) ((Pp).trans ho)
   replace HDT:=aH (b8 La dv t) ((HDT).ao ho fun _ _=>id)
   replace HX11:=aH (Box La g11 3 #[.int .i64 (wr 2),.int .i64 (wr 3),.int .i64 0]) (ho.az (HX11) id)
   replace FU:=aH (Row 5 La (.slice A6Zq n6 c6) (bytes (blkB v t))) ((FU).ao ho fun _ _=>id)
   have HR12:=ae hr;have HB12:=aH (∀k,aJ (.slice A12 n12 OJ) k→w.heap.size≤k) (fun k hk=>Nat.le_trans HGQ (hb k hk));clear hr ho hb HGQ;refine lj hK ?_ fun aX=>?_
   ·first|exact DQ|exact⟨MD,Io.az⟩
   clear hK;refine lh 13 fun KcZq hK=>?_
   go_simp;clear aX;change KcZq _ (La.alloc (.cells #[.slice A6Zq n6 c6,.slice A12 n12 OJ,.slice none 0 0] 35));have ho:=(af.ak aA La).alloc (.cells #[.slice A6Zq n6 c6,.slice A12 n12 OJ,.slice none 0 0] 35);have bx:Box (La.alloc (.cells #[.slice A6Zq n6 c6,.slice A12 n12 OJ,.slice none 0 0] 35)) La.heap.size 35 #[.slice A6Zq n6 c6,.slice A12 n12 OJ,.slice none 0 0]:=Box.fresh La 35 #[.slice A6Zq n6 c6,.slice A12 n12 OJ,.slice none 0 0];have HGQ:w.heap.size≤La.heap.size:=Pp.size;generalize La.alloc (.cells #[.slice A6Zq n6 c6,.slice A12 n12 OJ,.slice none 0 0] 35)=K9 at *
   replace MD:=aH (Box K9 wb 110 (Cx wr dv)) (ho.az (MD) id)
   replace Io:=aH (gF K9 sb db lb V sh d) ((Io).keep ho)
   replace Pp:=aH (af aA w K9) ((Pp).trans ho)
   replace HDT:=aH (b8 K9 dv t) ((HDT).ao ho fun _ _=>id)
   replace FU:=aH (Row 5 K9 (.slice A6Zq n6 c6) (bytes (blkB v t))) ((FU).ao ho fun _ _=>id)
   replace HR12:=aH (Row 5 K9 (.slice A12 n12 OJ) (bytes (catS [(wr 2).toNat,(wr 3).toNat,0]))) ((HR12).ao ho fun _ _=>id)
   generalize La.heap.size=g13 at *;have HG13:=aH (w.heap.size≤g13) (HGQ);have HX13:=ae bx;clear ho bx HGQ;refine lj hK ?_ fun aX=>?_
   ·first|exact DQ|exact⟨MD,Io.az⟩
   clear hK;refine lh 14 fun KcZq hK=>?_
   go_simp;clear aX;have HGQ:=Pp.size;refine(sto_writes _).mono ?_;rintro e QZ ⟨sxZq,lxZq,rfl,hsx,hlx,bx1,bx2,ho⟩
   replace MD:=aH (Box QZ wb 110 (Cx wr dv)) (ho.az (MD) id)
   replace Io:=aH (gF QZ sb db lb V sh d) ((Io).keep ho)
   replace Pp:=aH (af aA w QZ) ((Pp).trans ho)
   replace HDT:=aH (b8 QZ dv t) ((HDT).ao ho fun _ _=>id)
   replace FU:=aH (Row 5 QZ (.slice A6Zq n6 c6) (bytes (blkB v t))) ((FU).ao ho fun _ _=>id)
   replace HR12:=aH (Row 5 QZ (.slice A12 n12 OJ) (bytes (catS [(wr 2).toNat,(wr 3).toNat,0]))) ((HR12).ao ho fun _ _=>id)
   replace HX13:=aH (Box QZ g13 35 #[.slice A6Zq n6 c6,.slice A12 n12 OJ,.slice none 0 0]) (ho.az (HX13) id)
   have HX14a:=ae bx1;have HX14b:=ae bx2;have HL14:=aH (w.heap.size≤sxZq∧w.heap.size≤lxZq) (⟨Nat.le_trans HGQ hsx,Nat.le_trans HGQ hlx⟩);clear hsx hlx bx1 bx2 ho HGQ;refine lj hK ?_ fun aX=>?_
   ·first|exact DQ|exact⟨MD,Io.az⟩
   clear hK;refine lh 21 fun KcZq hK=>?_
   go_simp;clear aX;refine(HA _).mono ?_;rintro e W21 ⟨rfl,ho⟩
   replace MD:=aH (Box W21 wb 110 (Cx wr dv)) (ho.az (MD) id)
   replace Io:=aH (gF W21 sb db lb V sh d) ((Io).keep ho)
   replace Pp:=aH (af aA w W21) ((Pp).trans ho)
   replace HDT:=aH (b8 W21 dv t) ((HDT).ao ho fun _ _=>id)
   replace FU:=aH (Row 5 W21 (.slice A6Zq n6 c6) (bytes (blkB v t))) ((FU).ao ho fun _ _=>id)
   replace HR12:=aH (Row 5 W21 (.slice A12 n12 OJ) (bytes (catS [(wr 2).toNat,(wr 3).toNat,0]))) ((HR12).ao ho fun _ _=>id)
   replace HX13:=aH (Box W21 g13 35 #[.slice A6Zq n6 c6,.slice A12 n12 OJ,.slice none 0 0]) (ho.az (HX13) id)
   replace HX14a:=aH (Box W21 sxZq 70 #[.pointer (some ⟨sb,0,none⟩)]) (ho.az (HX14a) id)
   replace HX14b:=aH (Box W21 lxZq 60 #[.slice (some ⟨g13,0,none⟩) 3 3]) (ho.az (HX14b) id)
   clear ho;refine lj hK ?_ fun aX=>?_
   ·first|exact DQ|exact⟨MD,Io.az⟩
   clear hK;refine lh 30 fun KcZq hK=>?_
   go_simp;clear aX;refine(HSL _).mono ?_;rintro e W30 ⟨rfl,ho⟩
   replace MD:=aH (Box W30 wb 110 (Cx wr dv)) (ho.az (MD) id)
   replace Io:=aH (gF W30 sb db lb V sh d) ((Io).keep ho)
   replace Pp:=aH (af aA w W30) ((Pp).trans ho)
   replace HDT:=aH (b8 W30 dv t) ((HDT).ao ho fun _ _=>id)
   replace FU:=aH (Row 5 W30 (.slice A6Zq n6 c6) (bytes (blkB v t))) ((FU).ao ho fun _ _=>id)
   replace HR12:=aH (Row 5 W30 (.slice A12 n12 OJ) (bytes (catS [(wr 2).toNat,(wr 3).toNat,0]))) ((HR12).ao ho fun _ _=>id)
   replace HX13:=aH (Box W30 g13 35 #[.slice A6Zq n6 c6,.slice A12 n12 OJ,.slice none 0 0]) (ho.az (HX13) id)
   replace HX14a:=aH (Box W30 sxZq 70 #[.pointer (some ⟨sb,0,none⟩)]) (ho.az (HX14a) id)
   replace HX14b:=aH (Box W30 lxZq 60 #[.slice (some ⟨g13,0,none⟩) 3 3]) (ho.az (HX14b) id)
   clear ho;refine lj hK ?_ fun aX=>?_
   ·first|exact DQ|exact⟨MD,Io.az⟩
   clear hK;refine lh 31 fun KcZq hK=>?_
   go_simp;clear aX;change KcZq _ (W30.alloc (.cells #[.int .i64 (1+wr 4),.int .i64 (1+sh 0+sh 3*wr 0+wr 1),.int .i64 0] 3));have ho:=(af.ak aA W30).alloc (.cells #[.int .i64 (1+wr 4),.int .i64 (1+sh 0+sh 3*wr 0+wr 1),.int .i64 0] 3);have bx:Box (W30.alloc (.cells #[.int .i64 (1+wr 4),.int .i64 (1+sh 0+sh 3*wr 0+wr 1),.int .i64 0] 3)) W30.heap.size 3 #[.int .i64 (1+wr 4),.int .i64 (1+sh 0+sh 3*wr 0+wr 1),.int .i64 0]:=Box.fresh W30 3 #[.int .i64 (1+wr 4),.int .i64 (1+sh 0+sh 3*wr 0+wr 1),.int .i64 0];have HGQ:w.heap.size≤W30.heap.size:=Pp.size;generalize W30.alloc (.cells #[.int .i64 (1+wr 4),.int .i64 (1+sh 0+sh 3*wr 0+wr 1),.int .i64 0] 3)=W31 at *
   replace MD:=aH (Box W31 wb 110 (Cx wr dv)) (ho.az (MD) id)
   replace Io:=aH (gF W31 sb db lb V sh d) ((Io).keep ho)
   replace Pp:=aH (af aA w W31) ((Pp).trans ho)
   replace HDT:=aH (b8 W31 dv t) ((HDT).ao ho fun _ _=>id)
   replace FU:=aH (Row 5 W31 (.slice A6Zq n6 c6) (bytes (blkB v t))) ((FU).ao ho fun _ _=>id)
   replace HR12:=aH (Row 5 W31 (.slice A12 n12 OJ) (bytes (catS [(wr 2).toNat,(wr 3).toNat,0]))) ((HR12).ao ho fun _ _=>id)
   replace HX13:=aH (Box W31 g13 35 #[.slice A6Zq n6 c6,.slice A12 n12 OJ,.slice none 0 0]) (ho.az (HX13) id)
   replace HX14a:=aH (Box W31 sxZq 70 #[.pointer (some ⟨sb,0,none⟩)]) (ho.az (HX14a) id)
   replace HX14b:=aH (Box W31 lxZq 60 #[.slice (some ⟨g13,0,none⟩) 3 3]) (ho.az (HX14b) id)
   generalize W30.heap.size=g31 at *;have HG31:=aH (w.heap.size≤g31) (HGQ);have HX31:=ae bx;clear ho bx HGQ;refine lj hK ?_ fun aX=>?_
   ·first|exact DQ|exact⟨MD,Io.az⟩
   clear hK;refine lh 32 fun KcZq hK=>?_
   go_simp;clear aX;refine(does_close HH Pp Io HX14a HX14b HX13 HX31 FU HR12 HF MF HV FR Mo F9 HB12 HG13 HG31 HL14).mono ?_;rintro e W32 ⟨rfl,hp,ho⟩;have DQ:Box W32 wb 110 (Cx wr dv)∧Box W32 sb 108 (p7 sh db):=⟨ho.az MD (fun e=>by have h1:=De.out;have h2:=HH.B1.lt (.inl rfl);have h3:=HH.B1.lt (.inr (.inl rfl));rcases e with e|e<;>omega),by obtain⟨V2,a2,_,_⟩:=id hp;exact a2.az⟩;clear ho;refine lj hK ?_ fun aX=>?_
   ·first|exact DQ|exact⟨MD,Io.az⟩
   clear hK;refine jz ?_;go_wp2_with fail;go_ret;exact⟨rfl,hp⟩
 ·go_simp;clear aX;change KcZq _ (W1.drew.alloc (.cells #[.int .i64 (wr 2),.int .i64 (wr 3),.int .i64 0] 3));have ho:=(af.ak aA W1.drew).alloc (.cells #[.int .i64 (wr 2),.int .i64 (wr 3),.int .i64 0] 3);have bx:Box (W1.drew.alloc (.cells #[.int .i64 (wr 2),.int .i64 (wr 3),.int .i64 0] 3)) W1.heap.size 3 #[.int .i64 (wr 2),.int .i64 (wr 3),.int .i64 0]:=Box.fresh W1.drew 3 #[.int .i64 (wr 2),.int .i64 (wr 3),.int .i64 0];have HGQ:w.heap.size≤W1.heap.size:=Pp.size;generalize W1.drew.alloc (.cells #[.int .i64 (wr 2),.int .i64 (wr 3),.int .i64 0] 3)=Lb at *
  replace MD:=aH (Box Lb wb 110 (Cx wr dv)) (ho.az (MD) id)
  replace Io:=aH (gF Lb sb db lb V sh d) ((Io).keep ho)
  replace Pp:=aH (af aA w Lb) ((Pp).trans ho)
  replace HDT:=aH (b8 Lb dv t) ((HDT).ao ho fun _ _=>id)
  generalize W1.heap.size=g11 at *;have HG11:=aH (w.heap.size≤g11) (HGQ);have HX11:=ae bx;clear ho bx HGQ;refine lj hK ?_ fun aX=>?_
  ·first|exact DQ|exact⟨MD,Io.az⟩
  clear hK;refine lh 2 fun KcZq hK=>?_
  go_simp;clear aX;change KcZq _ (Lb.alloc (.cells #[.int .i64 (v:Nat)] 3));have ho:=(af.ak aA Lb).alloc (.cells #[.int .i64 (v:Nat)] 3);have bx:Box (Lb.alloc (.cells #[.int .i64 (v:Nat)] 3)) Lb.heap.size 3 #[.int .i64 (v:Nat)]:=Box.fresh Lb 3 #[.int .i64 (v:Nat)];have HGQ:w.heap.size≤Lb.heap.size:=Pp.size;generalize Lb.alloc (.cells #[.int .i64 (v:Nat)] 3)=W2 at *
  replace MD:=aH (Box W2 wb 110 (Cx wr dv)) (ho.az (MD) id)
  replace Io:=aH (gF W2 sb db lb V sh d) ((Io).keep ho)
  replace Pp:=aH (af aA w W2) ((Pp).trans ho)
  replace HDT:=aH (b8 W2 dv t) ((HDT).ao ho fun _ _=>id)
  replace HX11:=aH (Box W2 g11 3 #[.int .i64 (wr 2),.int .i64 (wr 3),.int .i64 0]) (ho.az (HX11) id)
  generalize Lb.heap.size=g2 at *;have Mt:=aH (w.heap.size≤g2) (HGQ);have LW:=ae bx;clear ho bx HGQ;refine lj hK ?_ fun aX=>?_
  ·first|exact DQ|exact⟨MD,Io.az⟩
  clear hK;refine lh 3 fun KcZq hK=>?_
  go_simp;clear aX;have HGQ:=Pp.size;refine(does_num LW HV).mono ?_;rintro e W3 ⟨v3,rfl,hr,ho,hb⟩
  replace MD:=aH (Box W3 wb 110 (Cx wr dv)) (ho.az (MD) id)
  replace Io:=aH (gF W3 sb db lb V sh d) ((Io).keep ho)
  replace Pp:=aH (af aA w W3) ((Pp).trans ho)
  replace HDT:=aH (b8 W3 dv t) ((HDT).ao ho fun _ _=>id)
  replace HX11:=aH (Box W3 g11 3 #[.int .i64 (wr 2),.int .i64 (wr 3),.int .i64 0]) (ho.az (HX11) id)
  replace LW:=aH (Box W3 g2 3 #[.int .i64 (v:Nat)]) (ho.az (LW) id)
  have B6:=ae hr;have kj:=aH (∀k,aJ v3 k→w.heap.size≤k) (fun k hk=>Nat.le_trans HGQ (hb k hk));clear hr ho hb HGQ;refine lj hK ?_ fun aX=>?_
  ·first|exact DQ|exact⟨MD,Io.az⟩
  clear hK;refine lh 6 fun KcZq hK=>?_
  go_simp;clear aX;have HGQ:=Pp.size;refine(does_txt B6 HDT FR).mono ?_;rintro e W6 ⟨v6,rfl,hr,ho,hb⟩;obtain⟨A6Zq,c6,e6,hcc,w9⟩:=hr.shape;subst e6;clear hcc w9;generalize(bytes (blkB v t)).length=n6 at hr hb ⊢
  replace MD:=aH (Box W6 wb 110 (Cx wr dv)) (ho.az (MD) id)
  replace Io:=aH (gF W6 sb db lb V sh d) ((Io).keep ho)
  replace Pp:=aH (af aA w W6) ((Pp).trans ho)
  replace HDT:=aH (b8 W6 dv t) ((HDT).ao ho fun _ _=>id)
  replace HX11:=aH (Box W6 g11 3 #[.int .i64 (wr 2),.int .i64 (wr 3),.int .i64 0]) (ho.az (HX11) id)
  replace B6:=aH (Row 5 W6 v3 (bytes (catS [v]))) ((B6).ao ho fun _ _=>id)
  have FU:=ae hr;have F9:=aH (∀k,aJ (.slice A6Zq n6 c6) k→w.heap.size≤k) (fun k hk=>Nat.le_trans HGQ (hb k hk));clear hr ho hb HGQ;refine lj hK ?_ fun aX=>?_
  ·first|exact DQ|exact⟨MD,Io.az⟩
  clear hK;refine lh 12 fun KcZq hK=>?_
  go_simp;clear aX;have HGQ:=Pp.size;refine(does_num3 HX11 HF).mono ?_;rintro e La ⟨v12,rfl,hr,ho,hb⟩;obtain⟨A12,OJ,K6,hcc,w9⟩:=hr.shape;subst K6;clear hcc w9;generalize(bytes (catS [(wr 2).toNat,(wr 3).toNat,0])).length=n12 at hr hb ⊢
  replace MD:=aH (Box La wb 110 (Cx wr dv)) (ho.az (MD) id)
  replace Io:=aH (gF La sb db lb V sh d) ((Io).keep ho)
  replace Pp:=aH (af aA w La) ((Pp).trans ho)
  replace HDT:=aH (b8 La dv t) ((HDT).ao ho fun _ _=>id)
  replace HX11:=aH (Box La g11 3 #[.int .i64 (wr 2),.int .i64 (wr 3),.int .i64 0]) (ho.az (HX11) id)
  replace FU:=aH (Row 5 La (.slice A6Zq n6 c6) (bytes (blkB v t))) ((FU).ao ho fun _ _=>id)
  have HR12:=ae hr;have HB12:=aH (∀k,aJ (.slice A12 n12 OJ) k→w.heap.size≤k) (fun k hk=>Nat.le_trans HGQ (hb k hk));clear hr ho hb HGQ;refine lj hK ?_ fun aX=>?_
  ·first|exact DQ|exact⟨MD,Io.az⟩
  clear hK;refine lh 13 fun KcZq hK=>?_
  go_simp;clear aX;change KcZq _ (La.alloc (.cells #[.slice A6Zq n6 c6,.slice A12 n12 OJ,.slice none 0 0] 35));have ho:=(af.ak aA La).alloc (.cells #[.slice A6Zq n6 c6,.slice A12 n12 OJ,.slice none 0 0] 35);have bx:Box (La.alloc (.cells #[.slice A6Zq n6 c6,.slice A12 n12 OJ,.slice none 0 0] 35)) La.heap.size 35 #[.slice A6Zq n6 c6,.slice A12 n12 OJ,.slice none 0 0]:=Box.fresh La 35 #[.slice A6Zq n6 c6,.slice A12 n12 OJ,.slice none 0 0];have HGQ:w.heap.size≤La.heap.size:=Pp.size;generalize La.alloc (.cells #[.slice A6Zq n6 c6,.slice A12 n12 OJ,.slice none 0 0] 35)=K9 at *
  replace MD:=aH (Box K9 wb 110 (Cx wr dv)) (ho.az (MD) id)
  replace Io:=aH (gF K9 sb db lb V sh d) ((Io).keep ho)
  replace Pp:=aH (af aA w K9) ((Pp).trans ho)
  replace HDT:=aH (b8 K9 dv t) ((HDT).ao ho fun _ _=>id)
  replace FU:=aH (Row 5 K9 (.slice A6Zq n6 c6) (bytes (blkB v t))) ((FU).ao ho fun _ _=>id)
  replace HR12:=aH (Row 5 K9 (.slice A12 n12 OJ) (bytes (catS [(wr 2).toNat,(wr 3).toNat,0]))) ((HR12).ao ho fun _ _=>id)
  generalize La.heap.size=g13 at *;have HG13:=aH (w.heap.size≤g13) (HGQ);have HX13:=ae bx;clear ho bx HGQ;refine lj hK ?_ fun aX=>?_
  ·first|exact DQ|exact⟨MD,Io.az⟩
  clear hK;refine lh 14 fun KcZq hK=>?_
  go_simp;clear aX;have HGQ:=Pp.size;refine(sto_writes _).mono ?_;rintro e QZ ⟨sxZq,lxZq,rfl,hsx,hlx,bx1,bx2,ho⟩
  replace MD:=aH (Box QZ wb 110 (Cx wr dv)) (ho.az (MD) id)
  replace Io:=aH (gF QZ sb db lb V sh d) ((Io).keep ho)
  replace Pp:=aH (af aA w QZ) ((Pp).trans ho)
  replace HDT:=aH (b8 QZ dv t) ((HDT).ao ho fun _ _=>id)
  replace FU:=aH (Row 5 QZ (.slice A6Zq n6 c6) (bytes (blkB v t))) ((FU).ao ho fun _ _=>id)
  replace HR12:=aH (Row 5 QZ (.slice A12 n12 OJ) (bytes (catS [(wr 2).toNat,(wr 3).toNat,0]))) ((HR12).ao ho fun _ _=>id)
  replace HX13:=aH (Box QZ g13 35 #[.slice A6Zq n6 c6,.slice A12 n12 OJ,.slice none 0 0]) (ho.az (HX13) id)
  have HX14a:=ae bx1;have HX14b:=ae bx2;have HL14:=aH (w.heap.size≤sxZq∧w.heap.size≤lxZq) (⟨Nat.le_trans HGQ hsx,Nat.le_trans HGQ hlx⟩);clear hsx hlx bx1 bx2 ho HGQ;refine lj hK ?_ fun aX=>?_
  ·first|exact DQ|exact⟨MD,Io.az⟩
  clear hK;refine lh 21 fun KcZq hK=>?_
  go_simp;clear aX;refine(HA _).mono ?_;rintro e W21 ⟨rfl,ho⟩
  replace MD:=aH (Box W21 wb 110 (Cx wr dv)) (ho.az (MD) id)
  replace Io:=aH (gF W21 sb db lb V sh d) ((Io).keep ho)
  replace Pp:=aH (af aA w W21) ((Pp).trans ho)
  replace HDT:=aH (b8 W21 dv t) ((HDT).ao ho fun _ _=>id)
  replace FU:=aH (Row 5 W21 (.slice A6Zq n6 c6) (bytes (blkB v t))) ((FU).ao ho fun _ _=>id)
  replace HR12:=aH (Row 5 W21 (.slice A12 n12 OJ) (bytes (catS [(wr 2).toNat,(wr 3).toNat,0]))) ((HR12).ao ho fun _ _=>id)
  replace HX13:=aH (Box W21 g13 35 #[.slice A6Zq n6 c6,.slice A12 n12 OJ,.slice none 0 0]) (ho.az (HX13) id)
  replace HX14a:=aH (Box W21 sxZq 70 #[.pointer (some ⟨sb,0,none⟩)]) (ho.az (HX14a) id)
  replace HX14b:=aH (Box W21 lxZq 60 #[.slice (some ⟨g13,0,none⟩) 3 3]) (ho.az (HX14b) id)
  clear ho;refine lj hK ?_ fun aX=>?_
  ·first|exact DQ|exact⟨MD,Io.az⟩
  clear hK;refine lh 30 fun KcZq hK=>?_
  go_simp;clear aX;refine(HSL _).mono ?_;rintro e W30 ⟨rfl,ho⟩
  replace MD:=aH (Box W30 wb 110 (Cx wr dv)) (ho.az (MD) id)
  replace Io:=aH (gF W30 sb db lb V sh d) ((Io).keep ho)
  replace Pp:=aH (af aA w W30) ((Pp).trans ho)
  replace HDT:=aH (b8 W30 dv t) ((HDT).ao ho fun _ _=>id)
  replace FU:=aH (Row 5 W30 (.slice A6Zq n6 c6) (bytes (blkB v t))) ((FU).ao ho fun _ _=>id)
  replace HR12:=aH (Row 5 W30 (.slice A12 n12 OJ) (bytes (catS [(wr 2).toNat,(wr 3).toNat,0]))) ((HR12).ao ho fun _ _=>id)
  replace HX13:=aH (Box W30 g13 35 #[.slice A6Zq n6 c6,.slice A12 n12 OJ,.slice none 0 0]) (ho.az (HX13) id)
  replace HX14a:=aH (Box W30 sxZq 70 #[.pointer (some ⟨sb,0,none⟩)]) (ho.az (HX14a) id)
  replace HX14b:=aH (Box W30 lxZq 60 #[.slice (some ⟨g13,0,none⟩) 3 3]) (ho.az (HX14b) id)
  clear ho;refine lj hK ?_ fun aX=>?_
  ·first|exact DQ|exact⟨MD,Io.az⟩
  clear hK;refine lh 31 fun KcZq hK=>?_
  go_simp;clear aX;change KcZq _ (W30.alloc (.cells #[.int .i64 (1+wr 4),.int .i64 (1+sh 0+sh 3*wr 0+wr 1),.int .i64 0] 3));have ho:=(af.ak aA W30).alloc (.cells #[.int .i64 (1+wr 4),.int .i64 (1+sh 0+sh 3*wr 0+wr 1),.int .i64 0] 3);have bx:Box (W30.alloc (.cells #[.int .i64 (1+wr 4),.int .i64 (1+sh 0+sh 3*wr 0+wr 1),.int .i64 0] 3)) W30.heap.size 3 #[.int .i64 (1+wr 4),.int .i64 (1+sh 0+sh 3*wr 0+wr 1),.int .i64 0]:=Box.fresh W30 3 #[.int .i64 (1+wr 4),.int .i64 (1+sh 0+sh 3*wr 0+wr 1),.int .i64 0];have HGQ:w.heap.size≤W30.heap.size:=Pp.size;generalize W30.alloc (.cells #[.int .i64 (1+wr 4),.int .i64 (1+sh 0+sh 3*wr 0+wr 1),.int .i64 0] 3)=W31 at *
  replace MD:=aH (Box W31 wb 110 (Cx wr dv)) (ho.az (MD) id)
  replace Io:=aH (gF W31 sb db lb V sh d) ((Io).keep ho)
  replace Pp:=aH (af aA w W31) ((Pp).trans ho)
  replace HDT:=aH (b8 W31 dv t) ((HDT).ao ho fun _ _=>id)
  replace FU:=aH (Row 5 W31 (.slice A6Zq n6 c6) (bytes (blkB v t))) ((FU).ao ho fun _ _=>id)
  replace HR12:=aH (Row 5 W31 (.slice A12 n12 OJ) (bytes (catS [(wr 2).toNat,(wr 3).toNat,0]))) ((HR12).ao ho fun _ _=>id)
  replace HX13:=aH (Box W31 g13 35 #[.slice A6Zq n6 c6,.slice A12 n12 OJ,.slice none 0 0]) (ho.az (HX13) id)
  replace HX14a:=aH (Box W31 sxZq 70 #[.pointer (some ⟨sb,0,none⟩)]) (ho.az (HX14a) id)
  replace HX14b:=aH (Box W31 lxZq 60 #[.slice (some ⟨g13,0,none⟩) 3 3]) (ho.az (HX14b) id)
  generalize W30.heap.size=g31 at *;have HG31:=aH (w.heap.size≤g31) (HGQ);have HX31:=ae bx;clear ho bx HGQ;refine lj hK ?_ fun aX=>?_
  ·first|exact DQ|exact⟨MD,Io.az⟩
  clear hK;refine lh 32 fun KcZq hK=>?_
  go_simp;clear aX;refine(does_close HH Pp Io HX14a HX14b HX13 HX31 FU HR12 HF MF HV FR Mo F9 HB12 HG13 HG31 HL14).mono ?_;rintro e W32 ⟨rfl,hp,ho⟩;have DQ:Box W32 wb 110 (Cx wr dv)∧Box W32 sb 108 (p7 sh db):=⟨ho.az MD (fun e=>by have h1:=De.out;have h2:=HH.B1.lt (.inl rfl);have h3:=HH.B1.lt (.inr (.inl rfl));rcases e with e|e<;>omega),by obtain⟨V2,a2,_,_⟩:=id hp;exact a2.az⟩;clear ho;refine lj hK ?_ fun aX=>?_
  ·first|exact DQ|exact⟨MD,Io.az⟩
  clear hK;refine jz ?_;go_wp2_with fail;go_ret;exact⟨rfl,hp⟩
end
end Go.Proofs.YtpcfhbeakecihaaGreat

/- texts Spj -/
import Derived.Test.YtpcfhbeakecihaaGreatDwSpi
import Derived.Test.YtpcfhbeakecihaaGreatM3
import Derived.Test.YtpcfhbeakecihaaGreatM2
import Derived.Test.YtpcfhbeakecihaaGreatM1
import Derived.Test.YtpcfhbeakecihaaGreatM4
import Derived.Test.YtpcfhbeakecihaaGreatM5
set_option linter.all false
set_option maxHeartbeats 20000000
set_option maxRecDepth 100000
namespace Go.Proofs.YtpcfhbeakecihaaGreat
open Go.RowKit Go.ChangeShapes Go.WideShapes
section
variable {sh:Nat→Int}{size:Nat}{d:dH}{wr:Nat→Int}{t:List Int}
def stEnd (sh:Nat→Int)(size:Nat)(d:dH)(wr:Nat→Int)(t:List Int):dH×Int×Int:=
 if(eH size (d.sec (1+(wr 4).toNat))).1=1000 then
  (if(d.write (slotI sh (wr 0) (wr 1)) (catS [(wr 2).toNat,(wr 3).toNat,11])).2≠0 then((d.write (slotI sh (wr 0) (wr 1)) (catS [(wr 2).toNat,(wr 3).toNat,11])).1,0,(d.write (slotI sh (wr 0) (wr 1)) (catS [(wr 2).toNat,(wr 3).toNat,11])).2)
   else((d.write (slotI sh (wr 0) (wr 1)) (catS [(wr 2).toNat,(wr 3).toNat,11])).1,11,0))
 else
  (if(d.write 0 (jrS (wr 0).toNat (wr 1).toNat (wr 2).toNat (wr 3).toNat (wr 4).toNat ((eH size (d.sec (1+(wr 4).toNat))).1+1) t)).2≠0 then((d.write 0 (jrS (wr 0).toNat (wr 1).toNat (wr 2).toNat (wr 3).toNat (wr 4).toNat ((eH size (d.sec (1+(wr 4).toNat))).1+1) t)).1,0,(d.write 0 (jrS (wr 0).toNat (wr 1).toNat (wr 2).toNat (wr 3).toNat (wr 4).toNat ((eH size (d.sec (1+(wr 4).toNat))).1+1) t)).2)
   else((stDoes sh (d.write 0 (jrS (wr 0).toNat (wr 1).toNat (wr 2).toNat (wr 3).toNat (wr 4).toNat ((eH size (d.sec (1+(wr 4).toNat))).1+1) t)).1 wr t ((eH size (d.sec (1+(wr 4).toNat))).1+1)).1,0,(stDoes sh (d.write 0 (jrS (wr 0).toNat (wr 1).toNat (wr 2).toNat (wr 3).toNat (wr 4).toNat ((eH size (d.sec (1+(wr 4).toNat))).1+1) t)).1 wr t ((eH size (d.sec (1+(wr 4).toNat))).1+1)).2))
theorem stEnd_jr (h:(eH size (d.sec (1+(wr 4).toNat))).1≠1000):stEnd sh size d wr t=if(d.write 0 (jrS (wr 0).toNat (wr 1).toNat (wr 2).toNat (wr 3).toNat (wr 4).toNat ((eH size (d.sec (1+(wr 4).toNat))).1+1) t)).2≠0 then((d.write 0 (jrS (wr 0).toNat (wr 1).toNat (wr 2).toNat (wr 3).toNat (wr 4).toNat ((eH size (d.sec (1+(wr 4).toNat))).1+1) t)).1,0,(d.write 0 (jrS (wr 0).toNat (wr 1).toNat (wr 2).toNat (wr 3).toNat (wr 4).toNat ((eH size (d.sec (1+(wr 4).toNat))).1+1) t)).2)
 else((stDoes sh (d.write 0 (jrS (wr 0).toNat (wr 1).toNat (wr 2).toNat (wr 3).toNat (wr 4).toNat ((eH size (d.sec (1+(wr 4).toNat))).1+1) t)).1 wr t ((eH size (d.sec (1+(wr 4).toNat))).1+1)).1,0,(stDoes sh (d.write 0 (jrS (wr 0).toNat (wr 1).toNat (wr 2).toNat (wr 3).toNat (wr 4).toNat ((eH size (d.sec (1+(wr 4).toNat))).1+1) t)).1 wr t ((eH size (d.sec (1+(wr 4).toNat))).1+1)).2):=by
 unfold stEnd;rw[if_neg h]
theorem stWrite_9 (h:¬(0≤wr 4∧wr 4<sh 0)):stWrite sh size d wr t=(d,0,9):=by unfold stWrite;rw[if_pos h]
theorem stWrite_10 (h:0≤wr 4∧wr 4<sh 0)(ht:t.length≠size):stWrite sh size d wr t=(d,0,10):=by unfold stWrite;rw[if_neg (fun e=>e h),if_pos ht]
theorem stWrite_6 (h:0≤wr 4∧wr 4<sh 0)(ht:t.length=size)(hf:uy sh wr=false):stWrite sh size d wr t=(d,0,6):=by unfold stWrite;rw[if_neg (fun e=>e h),if_neg (fun e=>e ht),if_pos hf]
theorem stWrite_in (h:0≤wr 4∧wr 4<sh 0)(ht:t.length=size)(hf:uy sh wr=true):stWrite sh size d wr t=
 (if wr 2<(lastOf (d.sec (slotI sh (wr 0) (wr 1)))).1∨(wr 2=(lastOf (d.sec (slotI sh (wr 0) (wr 1)))).1∧wr 3<(lastOf (d.sec (slotI sh (wr 0) (wr 1)))).2.1)then(d,0,12)
  else if wr 2=(lastOf (d.sec (slotI sh (wr 0) (wr 1)))).1∧wr 3=(lastOf (d.sec (slotI sh (wr 0) (wr 1)))).2.1 then(d,(((lastOf (d.sec (slotI sh (wr 0) (wr 1)))).2.2:Nat):Int),0)
  else stEnd sh size d wr t):=by
 unfold stWrite stEnd;rw[if_neg (fun e=>e h),if_neg (fun e=>e ht),if_neg (by rw[hf];decide)]
end
section
variable {w:World}{sb db lb:Nat}{V:Nat→Value}{sh:Nat→Int}{d:dH}{wr:Nat→Int}{t:List Int}
theorem StoP.keep {w':World}(h:gF w sb db lb V sh d)(ho:af aA w w'):StoP sb db lb V sh d w w':=⟨V,h.keep ho,fun k hk=>.inl hk,ho.mono fun k hk=>hk.elim⟩
theorem wr_num3 {W:World}{g:Nat}(h:Box W g 3 #[.int .i64 (wr 2),.int .i64 (wr 3),.int .i64 11])(hf:uy sh wr=true):Calls Tryz.prog 92 #[.slice (some ⟨g,0,none⟩) 3 3] W (oB (catS [(wr 2).toNat,(wr 3).toNat,11]) W):=by
 obtain⟨_,_,_,_,h4,h5,h6,h7⟩:=fitB_of hf;refine sto_numbers [(wr 2).toNat,(wr 3).toNat,11] W (by show 3≤6;decide) (fun k hk=>?_) fun k hk=>?_
 ·have hk:k<3:=hk;rcases(show k=0∨k=1∨k=2 by omega)with rfl|rfl|rfl
  ·show(wr 2).toNat<_;omega
  ·show(wr 3).toNat<_;omega
  ·show 11<_;omega
 ·have hk:k<3:=hk;have e2:(((wr 2).toNat:Nat):Int)=wr 2:=by omega
  have e3:(((wr 3).toNat:Nat):Int)=wr 3:=by omega
  rcases(show k=0∨k=1∨k=2 by omega)with rfl|rfl|rfl
  ·exact⟨g,0,rfl,by show aF W g 0 (((wr 2).toNat:Nat):Int);rw[e2];exact h.ag rfl⟩
  ·exact⟨g,0,rfl,by show aF W g 1 (((wr 3).toNat:Nat):Int);rw[e3];exact h.ag rfl⟩
  ·exact⟨g,0,rfl,h.ag rfl⟩
theorem wr_num6 {W:World}{g n1:Nat}(hp:zh sh)(h:Box W g 3 #[.int .i64 (wr 0),.int .i64 (wr 1),.int .i64 (wr 2),.int .i64 (wr 3),.int .i64 (wr 4),.int .i64 ((n1:Int)+1)])(hf:uy sh wr=true)(hb:0≤wr 4∧wr 4<sh 0)(hv:n1+1≤1000):Calls Tryz.prog 92 #[.slice (some ⟨g,0,none⟩) 6 6] W (oB (catS [(wr 0).toNat,(wr 1).toNat,(wr 2).toNat,(wr 3).toNat,(wr 4).toNat,n1+1]) W):=by
 obtain⟨a0,a1,a2,a3,a4,a5,a6,a7Zq⟩:=fitB_of hf;have e0:(((wr 0).toNat:Nat):Int)=wr 0:=by omega
 have e1:(((wr 1).toNat:Nat):Int)=wr 1:=by omega
 have e2:(((wr 2).toNat:Nat):Int)=wr 2:=by omega
 have e3:(((wr 3).toNat:Nat):Int)=wr 3:=by omega
 have e4:(((wr 4).toNat:Nat):Int)=wr 4:=by omega
 have p1:=hp.b1;have p2:=hp.c1;have p3:=hp.l1;refine sto_numbers [(wr 0).toNat,(wr 1).toNat,(wr 2).toNat,(wr 3).toNat,(wr 4).toNat,n1+1] W (by show 6≤6;decide) (fun k hk=>?_) fun k hk=>?_
 ·have hk:k<6:=hk;rcases(show k=0∨k=1∨k=2∨k=3∨k=4∨k=5 by omega)with rfl|rfl|rfl|rfl|rfl|rfl
  ·show(wr 0).toNat<_;omega
  ·show(wr 1).toNat<_;omega
  ·show(wr 2).toNat<_;omega
  ·show(wr 3).toNat<_;omega
  ·show(wr 4).toNat<_;omega
  ·show n1+1<_;omega
 ·have hk:k<6:=hk;rcases(show k=0∨k=1∨k=2∨k=3∨k=4∨k=5 by omega)with rfl|rfl|rfl|rfl|rfl|rfl
  ·exact⟨g,0,rfl,by show aF W g 0 (((wr 0).toNat:Nat):Int);rw[e0];exact h.ag rfl⟩
  ·exact⟨g,0,rfl,by show aF W g 1 (((wr 1).toNat:Nat):Int);rw[e1];exact h.ag rfl⟩
  ·exact⟨g,0,rfl,by show aF W g 2 (((wr 2).toNat:Nat):Int);rw[e2];exact h.ag rfl⟩
  ·exact⟨g,0,rfl,by show aF W g 3 (((wr 3).toNat:Nat):Int);rw[e3];exact h.ag rfl⟩
  ·exact⟨g,0,rfl,by show aF W g 4 (((wr 4).toNat:Nat):Int);rw[e4];exact h.ag rfl⟩
  ·exact⟨g,0,rfl,h.ag rfl⟩
theorem wr_txt {W:World}{A:Option Addr}{n c n1:Nat}{dv:Value}(h:Row 5 W (.slice A n c) (bytes (catS [(wr 0).toNat,(wr 1).toNat,(wr 2).toNat,(wr 3).toNat,(wr 4).toNat,n1+1])))(hd:b8 W dv t)(ht:t.length≤16):Calls Tryz.prog 91 #[.slice A n c,dv] W (oB (jrS (wr 0).toNat (wr 1).toNat (wr 2).toNat (wr 3).toNat (wr 4).toNat (n1+1) t) W):=by
 have:=catS_len [(wr 0).toNat,(wr 1).toNat,(wr 2).toNat,(wr 3).toNat,(wr 4).toNat,n1+1];have e: [(wr 0).toNat,(wr 1).toNat,(wr 2).toNat,(wr 3).toNat,(wr 4).toNat,n1+1].length=6:=rfl;exact zP _ dv _ t W (h.nR (by omega)) hd (by omega) (by omega)
theorem wr_slot {W:World}{A:Option Addr}{n c:Nat}(h:gF W sb db lb V sh d)(hf:uy sh wr=true)(hr:Row 5 W (.slice A n c) (bytes (catS [(wr 2).toNat,(wr 3).toNat,11])))(hb:∀k,aJ (.slice A n c) k→k≠db):
 Calls Tryz.prog 100 #[.pointer (some ⟨db,0,none⟩),.int .i64 (slotI sh (wr 0) (wr 1):Nat),.slice A n c] W fun e w'=>e= .returned (.int .i64 (d.write (slotI sh (wr 0) (wr 1)) (catS [(wr 2).toNat,(wr 3).toNat,11])).2)∧StoP sb db lb V sh (d.write (slotI sh (wr 0) (wr 1)) (catS [(wr 2).toNat,(wr 3).toNat,11])).1 W w':=by
 obtain⟨a0,a1,a2,a3,a4,a5,a6,a7Zq⟩:=fitB_of hf;have hl:=nums_len (a:=(wr 2).toNat) (o:=(wr 3).toNat) (n:=11) (by omega) (by omega) (by omega);refine sto_wr h (slotI_at h.zW a0 a1 a2 a3).2 (by omega) (isB_cat fun x hx=>?_) (hr.nR (by omega)) hb;simp only[List.mem_cons,List.not_mem_nil,or_false]at hx;rcases hx with rfl|rfl|rfl<;>omega
theorem wr_jr {W:World}{A:Option Addr}{n c n1:Nat}(h:gF W sb db lb V sh d)(hf:uy sh wr=true)(Hn:0≤wr 4∧wr 4<sh 0)(hv:n1+1≤1000)(ht:t.length≤16)(hB:sm t)(hr:Row 5 W (.slice A n c) (bytes (jrS (wr 0).toNat (wr 1).toNat (wr 2).toNat (wr 3).toNat (wr 4).toNat (n1+1) t)))(hb:∀k,aJ (.slice A n c) k→k≠db):
 Calls Tryz.prog 100 #[.pointer (some ⟨db,0,none⟩),.int .i64 0,.slice A n c] W fun e w'=>e= .returned (.int .i64 (d.write 0 (jrS (wr 0).toNat (wr 1).toNat (wr 2).toNat (wr 3).toNat (wr 4).toNat (n1+1) t)).2)∧StoP sb db lb V sh (d.write 0 (jrS (wr 0).toNat (wr 1).toNat (wr 2).toNat (wr 3).toNat (wr 4).toNat (n1+1) t)).1 W w':=by
 obtain⟨a0,a1,a2,a3,a4,a5,a6,a7Zq⟩:=fitB_of hf;have p1:=h.zW.b1;have p2:=h.zW.c1;have p3:=h.zW.l1;have hl:=jrS_len (c:=(wr 0).toNat) (s:=(wr 1).toNat) (a:=(wr 2).toNat) (o:=(wr 3).toNat) (b:=(wr 4).toNat) (v:=n1+1) (t:=t) (by omega) (by omega) (by omega) (by omega) (by omega) hv ht;refine sto_wr (i:=0) h (by decide) (by omega) (isB_app (isB_cat fun x hx=>?_) (isB_app (isB_enc (by omega)) hB)) (hr.nR (by omega)) hb;simp only[List.mem_cons,List.not_mem_nil,or_false]at hx;rcases hx with rfl|rfl|rfl|rfl|rfl|rfl<;>omega
theorem sto_Write {size:Nat}{A:Option Addr}{n c:Nat}(h:gF w sb db lb V sh d)(hsz:sh 1=size)(hd:b8 w (.slice A n c) t)(hB:sm t)(hdd:0<t.length→∀k,aJ (.slice A n c) k→k≠db∧k≠lb):
 Calls Tryz.prog 65 #[.pointer (some ⟨sb,0,none⟩),.agg (Cx wr (.slice A n c))] w fun e w'=>e= .returned (.tuple #[.int .i64 (stWrite sh size d wr t).2.1,.int .i64 (stWrite sh size d wr t).2.2])∧StoP sb db lb V sh (stWrite sh size d wr t).1 w w':=by
 obtain rfl:=hd.len.1;have HH:=ae h;have Pd:=ae hsz;have Mo:=ae hB;have HDD:=ae hdd;have HDT0:=ae hd;have L5:=aH (size≤16) (by have:=h.zW.s1;omega);have HDL0:=aH (db<w.heap.size∧lb<w.heap.size) (⟨h.B1.lt (.inl rfl),h.B1.lt (.inr (.inl rfl))⟩);clear h hsz hd hB hdd
 go_enter Tryz.func65,Tryz.ntmps65
 go_upto_region 1 with fail;have ho:=(af.ak aA w).alloc (.cells (Cx wr (.slice A t.length c)) 110);have bx:=Box.fresh w 110 (Cx wr (.slice A t.length c));change Code.wp _ _ _ _ (w.alloc (.cells (Cx wr (.slice A t.length c)) 110));generalize w.alloc (.cells (Cx wr (.slice A t.length c)) 110)=W1 at *;obtain⟨wb,CH⟩:∃wb,wb=w.heap.size:=⟨_,rfl⟩;rw[←CH]at bx ⊢;have F5:=aH (db<w.heap.size∧lb<w.heap.size∧w.heap.size=wb) (⟨HDL0.1,HDL0.2,CH.symm⟩);have MD:=ae bx;have Io:=ae (HH.keep ho);have Pp:=ae ho;have HDT:=ae (HDT0.ao ho fun _ _=>id);clear ho bx CH HDL0 HDT0
 by_cases h0:0≤wr 4
 ·have h0n:¬wr 4<0:=by omega
  by_cases h1:wr 4<sh 0
  ·have MF:=aH (0≤wr 4∧wr 4<sh 0) (⟨h0,h1⟩);have h1n:¬sh 0≤wr 4:=by omega
   replace MD:=aH (Box W1.drew wb 110 (Cx wr (.slice A t.length c))) (MD)
   replace Io:=ae (Io.keep ((af.ak aA W1).drew))
   replace Pp:=aH (af aA w W1.drew) (Pp.drew)
   replace HDT:=aH (b8 W1.drew (.slice A t.length c) t) (HDT.ao ((af.ak aA W1).drew) fun _ _=>id)
   go_upto_region 3 with fail;refine kb (fun w':World=>Box w' wb 110 (Cx wr (.slice A t.length c))∧Box w' sb 108 (p7 sh db)) 13 ?_ ?_
   ·first|exact hSF|exact⟨MD,Io.az⟩
   intro aX;refine eZ [0] ?_;refine bj (i:=1) (v:=.int .i64 (wr 4)) (by kernel_rfl) rfl (by kernel_rfl) (fun _ _ _ h=>h) (.inl ⟨by rfl,?_⟩) aX ?_
   ·intro w hSw;have hq:=hSw.1.ag (i:=4) (v:=.int .i64 (wr 4)) rfl;clear hSw;go_simp;(try with_reducible rfl)
   refine sd ?_;refine eZ [2,3,4] ?_;refine bj (i:=5) (v:=.int .i64 (wr 4)) (by kernel_rfl) rfl (by kernel_rfl) (fun _ _ _ h=>h) (.inl ⟨by rfl,?_⟩) aX ?_
   ·intro w hSw;have hq:=hSw.1.ag (i:=4) (v:=.int .i64 (wr 4)) rfl;clear hSw;go_simp;(try with_reducible rfl)
   refine sd ?_;refine eZ [6,7,8,9] ?_;refine bj (i:=10) (v:=.int .i64 (sh 0)) (by kernel_rfl) rfl (by kernel_rfl) (fun _ _ _ h=>h) (.inl ⟨by rfl,?_⟩) aX ?_
   ·intro w hSw;have hq:=hSw.2.ag (i:=0) (v:=.int .i64 (sh 0)) rfl;clear hSw;go_simp;(try with_reducible rfl)
   refine sd ?_;refine eZ [11,12] ?_;refine jz ?_;clear aX;generalize W1.drew=W2 at *;clear h0 h0n h1 h1n
   by_cases ht:t.length=size
   ·have HTE:=ae ht;have FR:=aH (t.length≤16) (by have:=L5.out;omega);have htb:((t.length:Int) != sh 1)=false:=by rw[Pd.out,ht];simp
    clear ht
    replace MD:=aH (Box W2.drew wb 110 (Cx wr (.slice A t.length c))) (MD)
    replace Io:=ae (Io.keep ((af.ak aA W2).drew))
    replace Pp:=aH (af aA w W2.drew) (Pp.drew)
    replace HDT:=aH (b8 W2.drew (.slice A t.length c) t) (HDT.ao ((af.ak aA W2).drew) fun _ _=>id)
    go_upto_region 5 with fail;refine kb (fun w':World=>Box w' wb 110 (Cx wr (.slice A t.length c))∧Box w' sb 108 (p7 sh db)) 9 ?_ ?_
    ·first|exact hSF|exact⟨MD,Io.az⟩
    intro aX;refine eZ [0] ?_;refine bj (i:=1) (v:=(.slice A t.length c)) (by kernel_rfl) rfl (by kernel_rfl) (fun _ _ _ h=>h) (.inl ⟨by rfl,?_⟩) aX ?_
    ·intro w hSw;have hq:=hSw.1.ag (i:=5) (v:=(.slice A t.length c)) rfl;clear hSw;go_simp;(try with_reducible rfl)
    refine sd ?_;refine eZ [2,3,4,5,6] ?_;refine bj (i:=7) (v:=.int .i64 (sh 1)) (by kernel_rfl) rfl (by kernel_rfl) (fun _ _ _ h=>h) (.inl ⟨by rfl,?_⟩) aX ?_
    ·intro w hSw;have hq:=hSw.2.ag (i:=1) (v:=.int .i64 (sh 1)) rfl;clear hSw;go_simp;(try with_reducible rfl)
    refine sd ?_;refine eZ [8] ?_;refine jz ?_;clear aX;generalize W2.drew=W3 at *;clear htb;have HFI:=ae (fun w=>EP (sh:=sh) (wr:=wr) A t.length c w)
    cases hf:uy sh wr with
    |false=>
     rw[hf]at HFI;have HE:=ae (stWrite_6 (d:=d) MF HTE hf);clear hf
     replace MD:=aH (Box W3.drew wb 110 (Cx wr (.slice A t.length c))) (MD)
     replace Io:=ae (Io.keep ((af.ak aA W3).drew))
     replace Pp:=aH (af aA w W3.drew) (Pp.drew)
     replace HDT:=aH (b8 W3.drew (.slice A t.length c) t) (HDT.ao ((af.ak aA W3).drew) fun _ _=>id)
     go_upto_region 7 with fail;refine kb (fun w':World=>Box w' wb 110 (Cx wr (.slice A t.length c))∧Box w' sb 108 (p7 sh db)) 7 ?_ ?_
     ·first|exact hSF|exact⟨MD,Io.az⟩
     intro aX;refine eZ [0,1,2] ?_;refine bj (i:=3) (v:=.agg (dY sh)) (by kernel_rfl) rfl (by kernel_rfl) (fun _ _ _ h=>h) (yieldsIf_load_mid (by rfl) 74 _ rfl sb 0 rfl (dY sh).toList _ (fun w hw j v hj=>by rw[Nat.zero_add];exact hw.2.ag (stoC_shape hj)) Tryz.underlying74 rfl (by kernel_rfl)) (by assumption) ?_;refine sd ?_;refine bj (i:=4) (v:=.agg (Cx wr (.slice A t.length c))) (by kernel_rfl) rfl (by kernel_rfl) (fun _ _ _ h=>h) (yieldsIf_load_mid (by rfl) 110 _ rfl wb 0 rfl (Cx wr (.slice A t.length c)).toList _ (fun w hw j v hj=>by rw[Nat.zero_add];exact hw.1.ag (by rw[←Array.getElem?_toList];exact hj)) Tryz.underlying110 rfl (by kernel_rfl)) (by assumption) ?_;refine sd ?_;refine lh 5 fun KcZq hK=>?_
     go_simp;clear aX;refine(HFI _).mono ?_;rintro e W5_W3 ⟨rfl,ho⟩
     replace MD:=aH (Box W5_W3 wb 110 (Cx wr (.slice A t.length c))) (ho.az (MD) id)
     replace Io:=aH (gF W5_W3 sb db lb V sh d) ((Io).keep ho)
     replace Pp:=aH (af aA w W5_W3) ((Pp).trans ho)
     replace HDT:=aH (b8 W5_W3 (.slice A t.length c) t) ((HDT).ao ho fun _ _=>id)
     clear ho;refine lj hK ?_ fun aX=>?_
     ·first|exact hSF|exact⟨MD,Io.az⟩
     clear hK;refine eZ [6] ?_;refine jz ?_;clear aX;generalize W5_W3=W4 at *;go_wp2_with fail;go_ret2;exact⟨by rw[HE.out];rfl,by rw[HE.out];exact StoP.keep HH Pp⟩
    |true=>
     rw[hf]at HFI;have HF:=ae hf;have tY:=ae (stWrite_in (d:=d) MF HTE hf);obtain⟨f0,f1,f2,f3,_⟩:=fitB_of hf;have HSLI:=ae (slotI_at HH.zW f0 f1 f2 f3);have HSL:=ae (fun w=>BB HH.zW f0 f1 f2 f3 w);have HFX:=aH (0≤wr 0∧wr 0<sh 2∧0≤wr 1∧wr 1<sh 3) (⟨f0,f1,f2,f3⟩);clear hf f0 f1 f2 f3
     replace MD:=aH (Box W3.drew wb 110 (Cx wr (.slice A t.length c))) (MD)
     replace Io:=ae (Io.keep ((af.ak aA W3).drew))
     replace Pp:=aH (af aA w W3.drew) (Pp.drew)
     replace HDT:=aH (b8 W3.drew (.slice A t.length c) t) (HDT.ao ((af.ak aA W3).drew) fun _ _=>id)
     go_upto_region 7 with fail;refine kb (fun w':World=>Box w' wb 110 (Cx wr (.slice A t.length c))∧Box w' sb 108 (p7 sh db)) 7 ?_ ?_
     ·first|exact hSF|exact⟨MD,Io.az⟩
     intro aX;refine eZ [0,1,2] ?_;refine bj (i:=3) (v:=.agg (dY sh)) (by kernel_rfl) rfl (by kernel_rfl) (fun _ _ _ h=>h) (yieldsIf_load_mid (by rfl) 74 _ rfl sb 0 rfl (dY sh).toList _ (fun w hw j v hj=>by rw[Nat.zero_add];exact hw.2.ag (stoC_shape hj)) Tryz.underlying74 rfl (by kernel_rfl)) (by assumption) ?_;refine sd ?_;refine bj (i:=4) (v:=.agg (Cx wr (.slice A t.length c))) (by kernel_rfl) rfl (by kernel_rfl) (fun _ _ _ h=>h) (yieldsIf_load_mid (by rfl) 110 _ rfl wb 0 rfl (Cx wr (.slice A t.length c)).toList _ (fun w hw j v hj=>by rw[Nat.zero_add];exact hw.1.ag (by rw[←Array.getElem?_toList];exact hj)) Tryz.underlying110 rfl (by kernel_rfl)) (by assumption) ?_;refine sd ?_;refine lh 5 fun KcZq hK=>?_
     go_simp;clear aX;refine(HFI _).mono ?_;rintro e W5_W3 ⟨rfl,ho⟩
     replace MD:=aH (Box W5_W3 wb 110 (Cx wr (.slice A t.length c))) (ho.az (MD) id)
     replace Io:=aH (gF W5_W3 sb db lb V sh d) ((Io).keep ho)
     replace Pp:=aH (af aA w W5_W3) ((Pp).trans ho)
     replace HDT:=aH (b8 W5_W3 (.slice A t.length c) t) ((HDT).ao ho fun _ _=>id)
     clear ho;refine lj hK ?_ fun aX=>?_
     ·first|exact hSF|exact⟨MD,Io.az⟩
     clear hK;refine eZ [6] ?_;refine jz ?_;clear aX;generalize W5_W3=W4 at *;have y0:aF W4 wb 0 (wr 0):=MD.ag rfl;have y1:aF W4 wb 1 (wr 1):=MD.ag rfl;have lv:=ae (sto_last HFX.1 HFX.2.1 HFX.2.2.1 HFX.2.2.2 Io);unfold LastP at lv;generalize lastOf (d.sec (slotI sh (wr 0) (wr 1)))=LOZq at *;obtain⟨b1,o1Zq,k1⟩:=LOZq;dsimp only at *;go_upto_region 10 with(go_at_call 99;refine lv.mono ?_;rintro e W5 ⟨rfl,ho⟩)
     replace MD:=ae (ho.az MD id)
     replace Io:=ae (Io.keep ho)
     replace Pp:=ae (Pp.trans ho)
     replace HDT:=ae (HDT.ao ho fun _ _=>id)
     clear ho y0 y1 lv HFX;obtain⟨bkZq,Hn⟩:∃bkZq:Nat,wr 4=bkZq:=⟨(wr 4).toNat,by have:=MF.out;omega⟩;have y4:aF W5 wb 4 (bkZq:Nat):=by rw[←Hn];exact MD.ag rfl
     have wQ:=sD (b:=bkZq) (by have:=MF.out;omega) Pd Io;rw[show bkZq=(wr 4).toNat by omega]at wQ;have B9:=ae (blkOf_ver size (d.sec (1+(wr 4).toNat)));unfold vr at wQ;generalize rk:(eH size (d.sec (1+(wr 4).toNat))).1=n1 at wQ B9;have Ca:=ae rk;rw[show(wr 4).toNat=bkZq by omega]at wQ;have wQ:=ae wQ;clear rk Hn;go_upto_region 11 with(go_at_call 59;refine wQ.mono ?_;rintro e W6 ⟨v,rfl,_,ho,_⟩)
     replace MD:=ae (ho.az MD id)
     replace Io:=ae (Io.keep ho)
     replace Pp:=ae (Pp.trans ho)
     replace HDT:=ae (HDT.ao ho fun _ _=>id)
     clear ho y4 wQ;have y2:aF W6 wb 2 (wr 2):=MD.ag rfl;have y3:aF W6 wb 3 (wr 3):=MD.ag rfl
     by_cases q1:wr 2<(b1:Int)
     ·have HE:=ae (tY.trans (if_pos (.inl q1)));go_wp2_with fail;go_ret2;exact⟨by rw[HE.out];rfl,by rw[HE.out];exact StoP.keep HH Pp⟩
     ·by_cases q2:wr 2=(b1:Int)
      ·have q2b:(wr 2==(b1:Int))=true:=by rw[q2];simp
       by_cases q3:wr 3<(o1Zq:Int)
       ·have HE:=ae (tY.trans (if_pos (.inr ⟨q2,q3⟩)));clear q2;go_wp2_with fail;go_ret2;exact⟨by rw[HE.out];rfl,by rw[HE.out];exact StoP.keep HH Pp⟩
       ·by_cases q4:wr 3=(o1Zq:Int)
        ·have q4b:(wr 3==(o1Zq:Int))=true:=by rw[q4];simp
         have HE:=ae (tY.trans ((if_neg (fun h=>h.elim q1 fun h=>q3 h.2)).trans (if_pos ⟨q2,q4⟩)));clear q2 q4;go_wp2_with fail;go_ret2;exact⟨by rw[HE.out];rfl,by rw[HE.out];exact StoP.keep HH Pp⟩
        ·have q4b:(wr 3==(o1Zq:Int))=false:=by simpa using q4
         have HW0:=ae (tY.trans ((if_neg (fun h=>h.elim q1 fun h=>q3 h.2)).trans (if_neg fun h=>q4 h.2)));clear q2 q4
         by_cases hv:n1=1000
         ·have LY:=ae hv;have hvb:((n1:Int)==1000)=true:=by rw[hv];rfl
          replace MD:=aH (Box W6.drew wb 110 (Cx wr (.slice A t.length c))) (MD)
          replace Io:=ae (Io.keep ((af.ak aA W6).drew))
          replace Pp:=aH (af aA w W6.drew) (Pp.drew)
          replace HDT:=aH (b8 W6.drew (.slice A t.length c) t) (HDT.ao ((af.ak aA W6).drew) fun _ _=>id)
          go_upto_region 16 with fail;refine kb (fun w':World=>Box w' wb 110 (Cx wr (.slice A t.length c))∧Box w' sb 108 (p7 sh db)) 20 ?_ ?_
          ·first|exact hSF|exact⟨MD,Io.az⟩
          intro aX;refine eZ [0,1,2] ?_;refine bj (i:=3) (v:=.pointer (some ⟨db,0,none⟩)) (by kernel_rfl) rfl (by kernel_rfl) (fun _ _ _ h=>h) (.inl ⟨by rfl,?_⟩) aX ?_
          ·intro w hSw;have hq:=hSw.2.ag (i:=4) (v:=.pointer (some ⟨db,0,none⟩)) rfl;clear hSw;go_simp;(try with_reducible rfl)
          refine sd ?_;refine eZ [4,5,6] ?_;refine bj (i:=7) (v:=.agg (dY sh)) (by kernel_rfl) rfl (by kernel_rfl) (fun _ _ _ h=>h) (yieldsIf_load_mid (by rfl) 74 _ rfl sb 0 rfl (dY sh).toList _ (fun w hw j v hj=>by rw[Nat.zero_add];exact hw.2.ag (stoC_shape hj)) Tryz.underlying74 rfl (by kernel_rfl)) (by assumption) ?_;refine sd ?_;refine eZ [8] ?_;refine bj (i:=9) (v:=.int .i64 (wr 0)) (by kernel_rfl) rfl (by kernel_rfl) (fun _ _ _ h=>h) (.inl ⟨by rfl,?_⟩) aX ?_
          ·intro w hSw;have hq:=hSw.1.ag (i:=0) (v:=.int .i64 (wr 0)) rfl;clear hSw;go_simp;(try with_reducible rfl)
          refine sd ?_;refine eZ [10] ?_;refine bj (i:=11) (v:=.int .i64 (wr 1)) (by kernel_rfl) rfl (by kernel_rfl) (fun _ _ _ h=>h) (.inl ⟨by rfl,?_⟩) aX ?_
          ·intro w hSw;have hq:=hSw.1.ag (i:=1) (v:=.int .i64 (wr 1)) rfl;clear hSw;go_simp;(try with_reducible rfl)
          refine sd ?_;refine eZ [13] ?_;refine bj (i:=14) (v:=.int .i64 (wr 2)) (by kernel_rfl) rfl (by kernel_rfl) (fun _ _ _ h=>h) (.inl ⟨by rfl,?_⟩) aX ?_
          ·intro w hSw;have hq:=hSw.1.ag (i:=2) (v:=.int .i64 (wr 2)) rfl;clear hSw;go_simp;(try with_reducible rfl)
          refine sd ?_;refine eZ [15] ?_;refine bj (i:=16) (v:=.int .i64 (wr 3)) (by kernel_rfl) rfl (by kernel_rfl) (fun _ _ _ h=>h) (.inl ⟨by rfl,?_⟩) aX ?_
          ·intro w hSw;have hq:=hSw.1.ag (i:=3) (v:=.int .i64 (wr 3)) rfl;clear hSw;go_simp;(try with_reducible rfl)
          refine sd ?_;refine vu (i:=12) (j:=17) rfl rfl (by kernel_rfl) (fun KcZq hK=>?_) (fun KcZq hK=>?_)
          ·go_simp;clear aX;refine(HSL _).mono ?_;rintro e W12_W6 ⟨rfl,ho⟩
           replace MD:=aH (Box W12_W6 wb 110 (Cx wr (.slice A t.length c))) (ho.az (MD) id)
           replace Io:=aH (gF W12_W6 sb db lb V sh d) ((Io).keep ho)
           replace Pp:=aH (af aA w W12_W6) ((Pp).trans ho)
           replace HDT:=aH (b8 W12_W6 (.slice A t.length c) t) ((HDT).ao ho fun _ _=>id)
           clear ho;refine lj hK ?_ fun aX=>?_
           ·first|exact hSF|exact⟨MD,Io.az⟩
           clear hK;refine lh 17 fun KcZq hK=>?_
           go_simp;clear aX;change KcZq _ (W12_W6.alloc (.cells #[.int .i64 (wr 2),.int .i64 (wr 3),.int .i64 11] 3));have ho:=(af.ak aA W12_W6).alloc (.cells #[.int .i64 (wr 2),.int .i64 (wr 3),.int .i64 11] 3);have bx:Box (W12_W6.alloc (.cells #[.int .i64 (wr 2),.int .i64 (wr 3),.int .i64 11] 3)) W12_W6.heap.size 3 #[.int .i64 (wr 2),.int .i64 (wr 3),.int .i64 11]:=Box.fresh W12_W6 3 #[.int .i64 (wr 2),.int .i64 (wr 3),.int .i64 11];generalize W12_W6.alloc (.cells #[.int .i64 (wr 2),.int .i64 (wr 3),.int .i64 11] 3)=W17_W6 at *
           replace MD:=aH (Box W17_W6 wb 110 (Cx wr (.slice A t.length c))) (ho.az (MD) id)
           replace Io:=aH (gF W17_W6 sb db lb V sh d) ((Io).keep ho)
           replace Pp:=aH (af aA w W17_W6) ((Pp).trans ho)
           replace HDT:=aH (b8 W17_W6 (.slice A t.length c) t) ((HDT).ao ho fun _ _=>id)
           generalize W12_W6.heap.size=g17 at *;have HX17:=ae bx;clear ho bx;refine lj hK ?_ fun aX=>?_
           ·first|exact hSF|exact⟨MD,Io.az⟩
           clear hK;refine lh 18 fun KcZq hK=>?_
           go_simp;clear aX;have HGQ:w.heap.size≤W17_W6.heap.size:=Pp.size;refine(wr_num3 HX17 HF).mono ?_;rintro e W18_W6 ⟨v18,rfl,hr,ho,hb⟩;obtain⟨A18,c18,e18,hcc,w9⟩:=hr.shape;subst e18;clear hcc w9;rw[cE]at hr hb
           try rw[cE]
           generalize(catS [(wr 2).toNat,(wr 3).toNat,11]).length=n18 at hr hb ⊢
           replace MD:=aH (Box W18_W6 wb 110 (Cx wr (.slice A t.length c))) (ho.az (MD) id)
           replace Io:=aH (gF W18_W6 sb db lb V sh d) ((Io).keep ho)
           replace Pp:=aH (af aA w W18_W6) ((Pp).trans ho)
           replace HDT:=aH (b8 W18_W6 (.slice A t.length c) t) ((HDT).ao ho fun _ _=>id)
           replace HX17:=aH (Box W18_W6 g17 3 #[.int .i64 (wr 2),.int .i64 (wr 3),.int .i64 11]) (ho.az (HX17) id)
           have HR18:=ae hr;have HB18:=aH (∀k,aJ (.slice A18 n18 c18) k→w.heap.size≤k) (fun k hk=>Nat.le_trans HGQ (hb k hk));clear hr ho hb HGQ;refine lj hK ?_ fun aX=>?_
           ·first|exact hSF|exact⟨MD,Io.az⟩
           clear hK;refine lh 19 fun KcZq hK=>?_
           go_simp;clear aX;have HCW:=ae (wr_slot Io HF HR18 (fun k hk=>by have h1:=HB18.out k hk;have h2:=F5.out;omega));rw[HSLI.1]at HCW;refine HCW.mono ?_;rintro e WE ⟨rfl,hp⟩;have hSF:Box WE wb 110 (Cx wr (.slice A t.length c))∧Box WE sb 108 (p7 sh db):=by obtain⟨V2,a2,_,o2⟩:=id hp;exact⟨o2.az MD (fun e=>by have:=F5.out;have e:wb=db∨wb=lb:=e;omega),a2.az⟩
           have HP:=ae (StoP.trans Io (fun k hk=>.inl hk) (Pp.mono fun k hk=>hk.elim) hp);clear hp HCW;refine lj hK ?_ fun aX=>?_
           ·first|exact hSF|exact⟨MD,Io.az⟩
           clear hK;refine jz ?_;have HSF:=ae hSF;clear aX hSF
           by_cases he:(d.write (slotI sh (wr 0) (wr 1)) (catS [(wr 2).toNat,(wr 3).toNat,11])).2=0
           ·have HE:=aH (stWrite sh size d wr t=((d.write (slotI sh (wr 0) (wr 1)) (catS [(wr 2).toNat,(wr 3).toNat,11])).1,11,0)) (by rw[HW0.out];unfold stEnd;rw[if_pos (by rw[Ca.out];exact LY.out),if_neg (fun h=>h he)]);rw[he];clear he;go_wp2_with fail;go_ret2;exact⟨by rw[HE.out];rfl,by rw[HE.out];exact HP⟩
           ·have hen:((d.write (slotI sh (wr 0) (wr 1)) (catS [(wr 2).toNat,(wr 3).toNat,11])).2 != 0)=true:=by simpa using he
            have HE:=aH (stWrite sh size d wr t=((d.write (slotI sh (wr 0) (wr 1)) (catS [(wr 2).toNat,(wr 3).toNat,11])).1,0,(d.write (slotI sh (wr 0) (wr 1)) (catS [(wr 2).toNat,(wr 3).toNat,11])).2)) (by rw[HW0.out];unfold stEnd;rw[if_pos (by rw[Ca.out];exact LY.out),if_pos he]);clear he;generalize hdw:d.write (slotI sh (wr 0) (wr 1)) (catS [(wr 2).toNat,(wr 3).toNat,11])=dwZq at *;obtain⟨d1,e1⟩:=dwZq;dsimp only at *;clear hdw;go_wp2_with fail;go_ret2;exact⟨by rw[HE.out];rfl,by rw[HE.out];exact HP⟩
          ·go_simp;clear aX;change KcZq _ (W6.drew.alloc (.cells #[.int .i64 (wr 2),.int .i64 (wr 3),.int .i64 11] 3));have ho:=(af.ak aA W6.drew).alloc (.cells #[.int .i64 (wr 2),.int .i64 (wr 3),.int .i64 11] 3);have bx:Box (W6.drew.alloc (.cells #[.int .i64 (wr 2),.int .i64 (wr 3),.int .i64 11] 3)) W6.heap.size 3 #[.int .i64 (wr 2),.int .i64 (wr 3),.int .i64 11]:=Box.fresh W6.drew 3 #[.int .i64 (wr 2),.int .i64 (wr 3),.int .i64 11];generalize W6.drew.alloc (.cells #[.int .i64 (wr 2),.int .i64 (wr 3),.int .i64 11] 3)=W17_W6 at *
           replace MD:=aH (Box W17_W6 wb 110 (Cx wr (.slice A t.length c))) (ho.az (MD) id)
           replace Io:=aH (gF W17_W6 sb db lb V sh d) ((Io).keep ho)
           replace Pp:=aH (af aA w W17_W6) ((Pp).trans ho)
           replace HDT:=aH (b8 W17_W6 (.slice A t.length c) t) ((HDT).ao ho fun _ _=>id)
           generalize W6.heap.size=g17 at *;have HX17:=ae bx;clear ho bx;refine lj hK ?_ fun aX=>?_
           ·first|exact hSF|exact⟨MD,Io.az⟩
           clear hK;refine lh 12 fun KcZq hK=>?_
           go_simp;clear aX;refine(HSL _).mono ?_;rintro e W12_W6 ⟨rfl,ho⟩
           replace MD:=aH (Box W12_W6 wb 110 (Cx wr (.slice A t.length c))) (ho.az (MD) id)
           replace Io:=aH (gF W12_W6 sb db lb V sh d) ((Io).keep ho)
           replace Pp:=aH (af aA w W12_W6) ((Pp).trans ho)
           replace HDT:=aH (b8 W12_W6 (.slice A t.length c) t) ((HDT).ao ho fun _ _=>id)
           replace HX17:=aH (Box W12_W6 g17 3 #[.int .i64 (wr 2),.int .i64 (wr 3),.int .i64 11]) (ho.az (HX17) id)
           clear ho;refine lj hK ?_ fun aX=>?_
           ·first|exact hSF|exact⟨MD,Io.az⟩
           clear hK;refine lh 18 fun KcZq hK=>?_
           go_simp;clear aX;have HGQ:w.heap.size≤W12_W6.heap.size:=Pp.size;refine(wr_num3 HX17 HF).mono ?_;rintro e W18_W6 ⟨v18,rfl,hr,ho,hb⟩;obtain⟨A18,c18,e18,hcc,w9⟩:=hr.shape;subst e18;clear hcc w9;rw[cE]at hr hb
           try rw[cE]
           generalize(catS [(wr 2).toNat,(wr 3).toNat,11]).length=n18 at hr hb ⊢
           replace MD:=aH (Box W18_W6 wb 110 (Cx wr (.slice A t.length c))) (ho.az (MD) id)
           replace Io:=aH (gF W18_W6 sb db lb V sh d) ((Io).keep ho)
           replace Pp:=aH (af aA w W18_W6) ((Pp).trans ho)
           replace HDT:=aH (b8 W18_W6 (.slice A t.length c) t) ((HDT).ao ho fun _ _=>id)
           replace HX17:=aH (Box W18_W6 g17 3 #[.int .i64 (wr 2),.int .i64 (wr 3),.int .i64 11]) (ho.az (HX17) id)
           have HR18:=ae hr;have HB18:=aH (∀k,aJ (.slice A18 n18 c18) k→w.heap.size≤k) (fun k hk=>Nat.le_trans HGQ (hb k hk));clear hr ho hb HGQ;refine lj hK ?_ fun aX=>?_
           ·first|exact hSF|exact⟨MD,Io.az⟩
           clear hK;refine lh 19 fun KcZq hK=>?_
           go_simp;clear aX;have HCW:=ae (wr_slot Io HF HR18 (fun k hk=>by have h1:=HB18.out k hk;have h2:=F5.out;omega));rw[HSLI.1]at HCW;refine HCW.mono ?_;rintro e WE ⟨rfl,hp⟩;have hSF:Box WE wb 110 (Cx wr (.slice A t.length c))∧Box WE sb 108 (p7 sh db):=by obtain⟨V2,a2,_,o2⟩:=id hp;exact⟨o2.az MD (fun e=>by have:=F5.out;have e:wb=db∨wb=lb:=e;omega),a2.az⟩
           have HP:=ae (StoP.trans Io (fun k hk=>.inl hk) (Pp.mono fun k hk=>hk.elim) hp);clear hp HCW;refine lj hK ?_ fun aX=>?_
           ·first|exact hSF|exact⟨MD,Io.az⟩
           clear hK;refine jz ?_;have HSF:=ae hSF;clear aX hSF
           by_cases he:(d.write (slotI sh (wr 0) (wr 1)) (catS [(wr 2).toNat,(wr 3).toNat,11])).2=0
           ·have HE:=aH (stWrite sh size d wr t=((d.write (slotI sh (wr 0) (wr 1)) (catS [(wr 2).toNat,(wr 3).toNat,11])).1,11,0)) (by rw[HW0.out];unfold stEnd;rw[if_pos (by rw[Ca.out];exact LY.out),if_neg (fun h=>h he)]);rw[he];clear he;go_wp2_with fail;go_ret2;exact⟨by rw[HE.out];rfl,by rw[HE.out];exact HP⟩
           ·have hen:((d.write (slotI sh (wr 0) (wr 1)) (catS [(wr 2).toNat,(wr 3).toNat,11])).2 != 0)=true:=by simpa using he
            have HE:=aH (stWrite sh size d wr t=((d.write (slotI sh (wr 0) (wr 1)) (catS [(wr 2).toNat,(wr 3).toNat,11])).1,0,(d.write (slotI sh (wr 0) (wr 1)) (catS [(wr 2).toNat,(wr 3).toNat,11])).2)) (by rw[HW0.out];unfold stEnd;rw[if_pos (by rw[Ca.out];exact LY.out),if_pos he]);clear he;generalize hdw:d.write (slotI sh (wr 0) (wr 1)) (catS [(wr 2).toNat,(wr 3).toNat,11])=dwZq at *;obtain⟨d1,e1⟩:=dwZq;dsimp only at *;clear hdw;go_wp2_with fail;go_ret2;exact⟨by rw[HE.out];rfl,by rw[HE.out];exact HP⟩
         ·have LY:=ae hv;have hvb:((n1:Int)==1000)=false:=by simp;omega
          have HV:=ae (show n1+1≤1000 by have:=B9.out;have:=LY.out;omega);have hv1000:(n1:Int)<1000:=by have:=HV.out;omega
          have GJ:IntKind.i64.wrap ((n1:Int)+1)=(n1:Int)+1:=by rw[IntKind.wrap_i64];omega
          replace MD:=aH (Box W6.drew wb 110 (Cx wr (.slice A t.length c))) (MD)
          replace Io:=ae (Io.keep ((af.ak aA W6).drew))
          replace Pp:=aH (af aA w W6.drew) (Pp.drew)
          replace HDT:=aH (b8 W6.drew (.slice A t.length c) t) (HDT.ao ((af.ak aA W6).drew) fun _ _=>id)
          go_upto_region 20 with fail;refine kb (fun w':World=>Box w' wb 110 (Cx wr (.slice A t.length c))∧Box w' sb 108 (p7 sh db)) 17 ?_ ?_
          ·first|exact hSF|exact⟨MD,Io.az⟩
          intro aX;refine eZ [0] ?_;refine bj (i:=1) (v:=.int .i64 (wr 0)) (by kernel_rfl) rfl (by kernel_rfl) (fun _ _ _ h=>h) (.inl ⟨by rfl,?_⟩) aX ?_
          ·intro w hSw;have hq:=hSw.1.ag (i:=0) (v:=.int .i64 (wr 0)) rfl;clear hSw;go_simp;(try with_reducible rfl)
          refine sd ?_;refine eZ [2] ?_;refine bj (i:=3) (v:=.int .i64 (wr 1)) (by kernel_rfl) rfl (by kernel_rfl) (fun _ _ _ h=>h) (.inl ⟨by rfl,?_⟩) aX ?_
          ·intro w hSw;have hq:=hSw.1.ag (i:=1) (v:=.int .i64 (wr 1)) rfl;clear hSw;go_simp;(try with_reducible rfl)
          refine sd ?_;refine eZ [4] ?_;refine bj (i:=5) (v:=.int .i64 (wr 2)) (by kernel_rfl) rfl (by kernel_rfl) (fun _ _ _ h=>h) (.inl ⟨by rfl,?_⟩) aX ?_
          ·intro w hSw;have hq:=hSw.1.ag (i:=2) (v:=.int .i64 (wr 2)) rfl;clear hSw;go_simp;(try with_reducible rfl)
          refine sd ?_;refine eZ [6] ?_;refine bj (i:=7) (v:=.int .i64 (wr 3)) (by kernel_rfl) rfl (by kernel_rfl) (fun _ _ _ h=>h) (.inl ⟨by rfl,?_⟩) aX ?_
          ·intro w hSw;have hq:=hSw.1.ag (i:=3) (v:=.int .i64 (wr 3)) rfl;clear hSw;go_simp;(try with_reducible rfl)
          refine sd ?_;refine eZ [8] ?_;refine bj (i:=9) (v:=.int .i64 (wr 4)) (by kernel_rfl) rfl (by kernel_rfl) (fun _ _ _ h=>h) (.inl ⟨by rfl,?_⟩) aX ?_
          ·intro w hSw;have hq:=hSw.1.ag (i:=4) (v:=.int .i64 (wr 4)) rfl;clear hSw;go_simp;(try with_reducible rfl)
          refine sd ?_;refine eZ [10,11,14] ?_;refine bj (i:=15) (v:=(.slice A t.length c)) (by kernel_rfl) rfl (by kernel_rfl) (fun _ _ _ h=>h) (.inl ⟨by rfl,?_⟩) aX ?_
          ·intro w hSw;have hq:=hSw.1.ag (i:=5) (v:=(.slice A t.length c)) rfl;clear hSw;go_simp;(try with_reducible rfl)
          refine sd ?_;refine lh 12 fun KcZq hK=>?_
          go_simp;clear aX;change KcZq _ (W6.drew.alloc (.cells #[.int .i64 (wr 0),.int .i64 (wr 1),.int .i64 (wr 2),.int .i64 (wr 3),.int .i64 (wr 4),.int .i64 ((n1:Int)+1)] 3));have ho:=(af.ak aA W6.drew).alloc (.cells #[.int .i64 (wr 0),.int .i64 (wr 1),.int .i64 (wr 2),.int .i64 (wr 3),.int .i64 (wr 4),.int .i64 ((n1:Int)+1)] 3);have bx:Box (W6.drew.alloc (.cells #[.int .i64 (wr 0),.int .i64 (wr 1),.int .i64 (wr 2),.int .i64 (wr 3),.int .i64 (wr 4),.int .i64 ((n1:Int)+1)] 3)) W6.heap.size 3 #[.int .i64 (wr 0),.int .i64 (wr 1),.int .i64 (wr 2),.int .i64 (wr 3),.int .i64 (wr 4),.int .i64 ((n1:Int)+1)]:=Box.fresh W6.drew 3 #[.int .i64 (wr 0),.int .i64 (wr 1),.int .i64 (wr 2),.int .i64 (wr 3),.int .i64 (wr 4),.int .i64 ((n1:Int)+1)];generalize W6.drew.alloc (.cells #[.int .i64 (wr 0),.int .i64 (wr 1),.int .i64 (wr 2),.int .i64 (wr 3),.int .i64 (wr 4),.int .i64 ((n1:Int)+1)] 3)=W12_W6 at *
          replace MD:=aH (Box W12_W6 wb 110 (Cx wr (.slice A t.length c))) (ho.az (MD) id)
          replace Io:=aH (gF W12_W6 sb db lb V sh d) ((Io).keep ho)
          replace Pp:=aH (af aA w W12_W6) ((Pp).trans ho)
          replace HDT:=aH (b8 W12_W6 (.slice A t.length c) t) ((HDT).ao ho fun _ _=>id)
          generalize W6.heap.size=g12 at *;have HX12:=ae bx;clear ho bx;refine lj hK ?_ fun aX=>?_
          ·first|exact hSF|exact⟨MD,Io.az⟩
          clear hK;refine lh 13 fun KcZq hK=>?_
          go_simp;clear aX;refine(wr_num6 Io.zW HX12 HF MF HV).mono ?_;rintro e W13_W6 ⟨v13,rfl,hr,ho,hb⟩;obtain⟨A13,OI,K5,hcc,w9⟩:=hr.shape;subst K5;clear hcc w9;rw[cE]at hr hb
          try rw[cE]
          generalize(catS [(wr 0).toNat,(wr 1).toNat,(wr 2).toNat,(wr 3).toNat,(wr 4).toNat,n1+1]).length=n13 at hr hb ⊢
          replace MD:=aH (Box W13_W6 wb 110 (Cx wr (.slice A t.length c))) (ho.az (MD) id)
          replace Io:=aH (gF W13_W6 sb db lb V sh d) ((Io).keep ho)
          replace Pp:=aH (af aA w W13_W6) ((Pp).trans ho)
          replace HDT:=aH (b8 W13_W6 (.slice A t.length c) t) ((HDT).ao ho fun _ _=>id)
          replace HX12:=aH (Box W13_W6 g12 3 #[.int .i64 (wr 0),.int .i64 (wr 1),.int .i64 (wr 2),.int .i64 (wr 3),.int .i64 (wr 4),.int .i64 ((n1:Int)+1)]) (ho.az (HX12) id)
          have HR13:=ae hr;clear hr ho hb;refine lj hK ?_ fun aX=>?_
          ·first|exact hSF|exact⟨MD,Io.az⟩
          clear hK;refine lh 16 fun KcZq hK=>?_
          go_simp;clear aX;have HGQ:w.heap.size≤W13_W6.heap.size:=Pp.size;refine(wr_txt HR13 HDT FR).mono ?_;rintro e W16_W6 ⟨v16,rfl,hr,ho,hb⟩;obtain⟨A16,B2,OB,hcc,w9⟩:=hr.shape;subst OB;clear hcc w9;rw[cE]at hr hb
          try rw[cE]
          generalize(jrS (wr 0).toNat (wr 1).toNat (wr 2).toNat (wr 3).toNat (wr 4).toNat (n1+1) t).length=n16 at hr hb ⊢
          replace MD:=aH (Box W16_W6 wb 110 (Cx wr (.slice A t.length c))) (ho.az (MD) id)
          replace Io:=aH (gF W16_W6 sb db lb V sh d) ((Io).keep ho)
          replace Pp:=aH (af aA w W16_W6) ((Pp).trans ho)
          replace HDT:=aH (b8 W16_W6 (.slice A t.length c) t) ((HDT).ao ho fun _ _=>id)
          replace HX12:=aH (Box W16_W6 g12 3 #[.int .i64 (wr 0),.int .i64 (wr 1),.int .i64 (wr 2),.int .i64 (wr 3),.int .i64 (wr 4),.int .i64 ((n1:Int)+1)]) (ho.az (HX12) id)
          replace HR13:=aH (Row 5 W16_W6 (.slice A13 n13 OI) (bytes (catS [(wr 0).toNat,(wr 1).toNat,(wr 2).toNat,(wr 3).toNat,(wr 4).toNat,n1+1]))) ((HR13).ao ho fun _ _=>id)
          have HR16:=ae hr;have HB16:=aH (∀k,aJ (.slice A16 n16 B2) k→w.heap.size≤k) (fun k hk=>Nat.le_trans HGQ (hb k hk));clear hr ho hb HGQ HX12 HR13;refine lj hK ?_ fun aX=>?_
          ·first|exact hSF|exact⟨MD,Io.az⟩
          clear hK;refine jz ?_;clear aX;generalize W16_W6=W7 at *;have HCW:=ae (wr_jr Io HF MF HV FR Mo HR16 (fun k hk=>by have h1:=HB16.out k hk;have h2:=F5.out;omega));have y4:=(dP Io).2.2.2.2;have HW1:=ae (HW0.trans (stEnd_jr (by rw[Ca.out];exact LY)));rw[Ca.out]at HW1;go_upto_region 22 with(go_at_call 100;refine HCW.mono ?_;rintro e W8 ⟨rfl,hp⟩;have HP:=ae hp;clear hp);clear y4 HCW;generalize hdw:d.write 0 (jrS (wr 0).toNat (wr 1).toNat (wr 2).toNat (wr 3).toNat (wr 4).toNat (n1+1) t)=dwZq at *;obtain⟨d1,e1⟩:=dwZq;dsimp only at *;clear hdw
          by_cases he:e1=0
          ·subst he;rw[if_neg (fun h=>h rfl)]at HW1;obtain⟨V1,CL,Ai,a8⟩:=HP.out;have jY:=a8.az MD (fun e=>by have:=F5.out;have e:wb=db∨wb=lb:=e;omega);have HBX1:=ae jY;have hdt:b8 W8 (.slice A t.length c) t:=HDT.keep a8 fun h0 k hk _ e=>by have:=HDD.out h0 k hk;omega
           have HDO:=ae (sto_does CL HF MF hdt FR Mo HV);have Dj:=aH (∀w',StoP sb db lb V1 sh (stDoes sh d1 wr t (n1+1)).1 W8 w'→StoP sb db lb V sh (stDoes sh d1 wr t (n1+1)).1 w w') (fun w' hq=>StoP.trans Io (fun k hk=>.inl hk) (Pp.mono fun k hk=>hk.elim) (StoP.trans CL Ai a8 hq));clear CL Ai a8 jY hdt HP;rw[show(((n1+1:Nat)):Int)=(n1:Int)+1 from rfl]at HDO;go_wp2_with (first|(refine pL (Cx wr (.slice A t.length c)) HBX1 Tryz.underlying110 ?_)|(go_at_call 58;refine HDO.mono ?_;rintro e WF ⟨rfl,hq⟩));go_ret2;exact⟨by rw[HW1.out];rfl,by rw[HW1.out];exact Dj _ hq⟩
          ·have hen:(e1 != 0)=true:=by simpa using he
           rw[if_pos he]at HW1;clear he;go_wp2_with fail;go_ret2;exact⟨by rw[HW1.out];rfl,by rw[HW1.out];exact StoP.trans Io (fun k hk=>.inl hk) (Pp.mono fun k hk=>hk.elim) HP⟩
      ·have q2b:(wr 2==(b1:Int))=false:=by simpa using q2
       have HW0:=ae (tY.trans ((if_neg (fun h=>h.elim q1 fun h=>q2 h.1)).trans (if_neg fun h=>q2 h.1)));clear q2
       by_cases hv:n1=1000
       ·have LY:=ae hv;have hvb:((n1:Int)==1000)=true:=by rw[hv];rfl
        replace MD:=aH (Box W6.drew wb 110 (Cx wr (.slice A t.length c))) (MD)
        replace Io:=ae (Io.keep ((af.ak aA W6).drew))
        replace Pp:=aH (af aA w W6.drew) (Pp.drew)
        replace HDT:=aH (b8 W6.drew (.slice A t.length c) t) (HDT.ao ((af.ak aA W6).drew) fun _ _=>id)
        go_upto_region 16 with fail;refine kb (fun w':World=>Box w' wb 110 (Cx wr (.slice A t.length c))∧Box w' sb 108 (p7 sh db)) 20 ?_ ?_
        ·first|exact hSF|exact⟨MD,Io.az⟩
        intro aX;refine eZ [0,1,2] ?_;refine bj (i:=3) (v:=.pointer (some ⟨db,0,none⟩)) (by kernel_rfl) rfl (by kernel_rfl) (fun _ _ _ h=>h) (.inl ⟨by rfl,?_⟩) aX ?_
        ·intro w hSw;have hq:=hSw.2.ag (i:=4) (v:=.pointer (some ⟨db,0,none⟩)) rfl;clear hSw;go_simp;(try with_reducible rfl)
        refine sd ?_;refine eZ [4,5,6] ?_;refine bj (i:=7) (v:=.agg (dY sh)) (by kernel_rfl) rfl (by kernel_rfl) (fun _ _ _ h=>h) (yieldsIf_load_mid (by rfl) 74 _ rfl sb 0 rfl (dY sh).toList _ (fun w hw j v hj=>by rw[Nat.zero_add];exact hw.2.ag (stoC_shape hj)) Tryz.underlying74 rfl (by kernel_rfl)) (by assumption) ?_;refine sd ?_;refine eZ [8] ?_;refine bj (i:=9) (v:=.int .i64 (wr 0)) (by kernel_rfl) rfl (by kernel_rfl) (fun _ _ _ h=>h) (.inl ⟨by rfl,?_⟩) aX ?_
        ·intro w hSw;have hq:=hSw.1.ag (i:=0) (v:=.int .i64 (wr 0)) rfl;clear hSw;go_simp;(try with_reducible rfl)
        refine sd ?_;refine eZ [10] ?_;refine bj (i:=11) (v:=.int .i64 (wr 1)) (by kernel_rfl) rfl (by kernel_rfl) (fun _ _ _ h=>h) (.inl ⟨by rfl,?_⟩) aX ?_
        ·intro w hSw;have hq:=hSw.1.ag (i:=1) (v:=.int .i64 (wr 1)) rfl;clear hSw;go_simp;(try with_reducible rfl)
        refine sd ?_;refine eZ [13] ?_;refine bj (i:=14) (v:=.int .i64 (wr 2)) (by kernel_rfl) rfl (by kernel_rfl) (fun _ _ _ h=>h) (.inl ⟨by rfl,?_⟩) aX ?_
        ·intro w hSw;have hq:=hSw.1.ag (i:=2) (v:=.int .i64 (wr 2)) rfl;clear hSw;go_simp;(try with_reducible rfl)
        refine sd ?_;refine eZ [15] ?_;refine bj (i:=16) (v:=.int .i64 (wr 3)) (by kernel_rfl) rfl (by kernel_rfl) (fun _ _ _ h=>h) (.inl ⟨by rfl,?_⟩) aX ?_
        ·intro w hSw;have hq:=hSw.1.ag (i:=3) (v:=.int .i64 (wr 3)) rfl;clear hSw;go_simp;(try with_reducible rfl)
        refine sd ?_;refine vu (i:=12) (j:=17) rfl rfl (by kernel_rfl) (fun KcZq hK=>?_) (fun KcZq hK=>?_)
        ·go_simp;clear aX;refine(HSL _).mono ?_;rintro e W12_W6 ⟨rfl,ho⟩
         replace MD:=aH (Box W12_W6 wb 110 (Cx wr (.slice A t.length c))) (ho.az (MD) id)
         replace Io:=aH (gF W12_W6 sb db lb V sh d) ((Io).keep ho)
         replace Pp:=aH (af aA w W12_W6) ((Pp).trans ho)
         replace HDT:=aH (b8 W12_W6 (.slice A t.length c) t) ((HDT).ao ho fun _ _=>id)
         clear ho;refine lj hK ?_ fun aX=>?_
         ·first|exact hSF|exact⟨MD,Io.az⟩
         clear hK;refine lh 17 fun KcZq hK=>?_
         go_simp;clear aX;change KcZq _ (W12_W6.alloc (.cells #[.int .i64 (wr 2),.int .i64 (wr 3),.int .i64 11] 3));have ho:=(af.ak aA W12_W6).alloc (.cells #[.int .i64 (wr 2),.int .i64 (wr 3),.int .i64 11] 3);have bx:Box (W12_W6.alloc (.cells #[.int .i64 (wr 2),.int .i64 (wr 3),.int .i64 11] 3)) W12_W6.heap.size 3 #[.int .i64 (wr 2),.int .i64 (wr 3),.int .i64 11]:=Box.fresh W12_W6 3 #[.int .i64 (wr 2),.int .i64 (wr 3),.int .i64 11];generalize W12_W6.alloc (.cells #[.int .i64 (wr 2),.int .i64 (wr 3),.int .i64 11] 3)=W17_W6 at *
         replace MD:=aH (Box W17_W6 wb 110 (Cx wr (.slice A t.length c))) (ho.az (MD) id)
         replace Io:=aH (gF W17_W6 sb db lb V sh d) ((Io).keep ho)
         replace Pp:=aH (af aA w W17_W6) ((Pp).trans ho)
         replace HDT:=aH (b8 W17_W6 (.slice A t.length c) t) ((HDT).ao ho fun _ _=>id)
         generalize W12_W6.heap.size=g17 at *;have HX17:=ae bx;clear ho bx;refine lj hK ?_ fun aX=>?_
         ·first|exact hSF|exact⟨MD,Io.az⟩
         clear hK;refine lh 18 fun KcZq hK=>?_
         go_simp;clear aX;have HGQ:w.heap.size≤W17_W6.heap.size:=Pp.size;refine(wr_num3 HX17 HF).mono ?_;rintro e W18_W6 ⟨v18,rfl,hr,ho,hb⟩;obtain⟨A18,c18,e18,hcc,w9⟩:=hr.shape;subst e18;clear hcc w9;rw[cE]at hr hb
         try rw[cE]
         generalize(catS [(wr 2).toNat,(wr 3).toNat,11]).length=n18 at hr hb ⊢
         replace MD:=aH (Box W18_W6 wb 110 (Cx wr (.slice A t.length c))) (ho.az (MD) id)
         replace Io:=aH (gF W18_W6 sb db lb V sh d) ((Io).keep ho)
         replace Pp:=aH (af aA w W18_W6) ((Pp).trans ho)
         replace HDT:=aH (b8 W18_W6 (.slice A t.length c) t) ((HDT).ao ho fun _ _=>id)
         replace HX17:=aH (Box W18_W6 g17 3 #[.int .i64 (wr 2),.int .i64 (wr 3),.int .i64 11]) (ho.az (HX17) id)
         have HR18:=ae hr;have HB18:=aH (∀k,aJ (.slice A18 n18 c18) k→w.heap.size≤k) (fun k hk=>Nat.le_trans HGQ (hb k hk));clear hr ho hb HGQ;refine lj hK ?_ fun aX=>?_
         ·first|exact hSF|exact⟨MD,Io.az⟩
         clear hK;refine lh 19 fun KcZq hK=>?_
         go_simp;clear aX;have HCW:=ae (wr_slot Io HF HR18 (fun k hk=>by have h1:=HB18.out k hk;have h2:=F5.out;omega));rw[HSLI.1]at HCW;refine HCW.mono ?_;rintro e WE ⟨rfl,hp⟩;have hSF:Box WE wb 110 (Cx wr (.slice A t.length c))∧Box WE sb 108 (p7 sh db):=by obtain⟨V2,a2,_,o2⟩:=id hp;exact⟨o2.az MD (fun e=>by have:=F5.out;have e:wb=db∨wb=lb:=e;omega),a2.az⟩
         have HP:=ae (StoP.trans Io (fun k hk=>.inl hk) (Pp.mono fun k hk=>hk.elim) hp);clear hp HCW;refine lj hK ?_ fun aX=>?_
         ·first|exact hSF|exact⟨MD,Io.az⟩
         clear hK;refine jz ?_;have HSF:=ae hSF;clear aX hSF
         by_cases he:(d.write (slotI sh (wr 0) (wr 1)) (catS [(wr 2).toNat,(wr 3).toNat,11])).2=0
         ·have HE:=aH (stWrite sh size d wr t=((d.write (slotI sh (wr 0) (wr 1)) (catS [(wr 2).toNat,(wr 3).toNat,11])).1,11,0)) (by rw[HW0.out];unfold stEnd;rw[if_pos (by rw[Ca.out];exact LY.out),if_neg (fun h=>h he)]);rw[he];clear he;go_wp2_with fail;go_ret2;exact⟨by rw[HE.out];rfl,by rw[HE.out];exact HP⟩
         ·have hen:((d.write (slotI sh (wr 0) (wr 1)) (catS [(wr 2).toNat,(wr 3).toNat,11])).2 != 0)=true:=by simpa using he
          have HE:=aH (stWrite sh size d wr t=((d.write (slotI sh (wr 0) (wr 1)) (catS [(wr 2).toNat,(wr 3).toNat,11])).1,0,(d.write (slotI sh (wr 0) (wr 1)) (catS [(wr 2).toNat,(wr 3).toNat,11])).2)) (by rw[HW0.out];unfold stEnd;rw[if_pos (by rw[Ca.out];exact LY.out),if_pos he]);clear he;generalize hdw:d.write (slotI sh (wr 0) (wr 1)) (catS [(wr 2).toNat,(wr 3).toNat,11])=dwZq at *;obtain⟨d1,e1⟩:=dwZq;dsimp only at *;clear hdw;go_wp2_with fail;go_ret2;exact⟨by rw[HE.out];rfl,by rw[HE.out];exact HP⟩
        ·go_simp;clear aX;change KcZq _ (W6.drew.alloc (.cells #[.int .i64 (wr 2),.int .i64 (wr 3),.int .i64 11] 3));have ho:=(af.ak aA W6.drew).alloc (.cells #[.int .i64 (wr 2),.int .i64 (wr 3),.int .i64 11] 3);have bx:Box (W6.drew.alloc (.cells #[.int .i64 (wr 2),.int .i64 (wr 3),.int .i64 11] 3)) W6.heap.size 3 #[.int .i64 (wr 2),.int .i64 (wr 3),.int .i64 11]:=Box.fresh W6.drew 3 #[.int .i64 (wr 2),.int .i64 (wr 3),.int .i64 11];generalize W6.drew.alloc (.cells #[.int .i64 (wr 2),.int .i64 (wr 3),.int .i64 11] 3)=W17_W6 at *
         replace MD:=aH (Box W17_W6 wb 110 (Cx wr (.slice A t.length c))) (ho.az (MD) id)
         replace Io:=aH (gF W17_W6 sb db lb V sh d) ((Io).keep ho)
         replace Pp:=aH (af aA w W17_W6) ((Pp).trans ho)
         replace HDT:=aH (b8 W17_W6 (.slice A t.length c) t) ((HDT).ao ho fun _ _=>id)
         generalize W6.heap.size=g17 at *;have HX17:=ae bx;clear ho bx;refine lj hK ?_ fun aX=>?_
         ·first|exact hSF|exact⟨MD,Io.az⟩
         clear hK;refine lh 12 fun KcZq hK=>?_
         go_simp;clear aX;refine(HSL _).mono ?_;rintro e W12_W6 ⟨rfl,ho⟩
         replace MD:=aH (Box W12_W6 wb 110 (Cx wr (.slice A t.length c))) (ho.az (MD) id)
         replace Io:=aH (gF W12_W6 sb db lb V sh d) ((Io).keep ho)
         replace Pp:=aH (af aA w W12_W6) ((Pp).trans ho)
         replace HDT:=aH (b8 W12_W6 (.slice A t.length c) t) ((HDT).ao ho fun _ _=>id)
         replace HX17:=aH (Box W12_W6 g17 3 #[.int .i64 (wr 2),.int .i64 (wr 3),.int .i64 11]) (ho.az (HX17) id)
         clear ho;refine lj hK ?_ fun aX=>?_
         ·first|exact hSF|exact⟨MD,Io.az⟩
         clear hK;refine lh 18 fun KcZq hK=>?_
         go_simp;clear aX;have HGQ:w.heap.size≤W12_W6.heap.size:=Pp.size;refine(wr_num3 HX17 HF).mono ?_;rintro e W18_W6 ⟨v18,rfl,hr,ho,hb⟩;obtain⟨A18,c18,e18,hcc,w9⟩:=hr.shape;subst e18;clear hcc w9;rw[cE]at hr hb
         try rw[cE]
         generalize(catS [(wr 2).toNat,(wr 3).toNat,11]).length=n18 at hr hb ⊢
         replace MD:=aH (Box W18_W6 wb 110 (Cx wr (.slice A t.length c))) (ho.az (MD) id)
         replace Io:=aH (gF W18_W6 sb db lb V sh d) ((Io).keep ho)
         replace Pp:=aH (af aA w W18_W6) ((Pp).trans ho)
         replace HDT:=aH (b8 W18_W6 (.slice A t.length c) t) ((HDT).ao ho fun _ _=>id)
         replace HX17:=aH (Box W18_W6 g17 3 #[.int .i64 (wr 2),.int .i64 (wr 3),.int .i64 11]) (ho.az (HX17) id)
         have HR18:=ae hr;have HB18:=aH (∀k,aJ (.slice A18 n18 c18) k→w.heap.size≤k) (fun k hk=>Nat.le_trans HGQ (hb k hk));clear hr ho hb HGQ;refine lj hK ?_ fun aX=>?_
         ·first|exact hSF|exact⟨MD,Io.az⟩
         clear hK;refine lh 19 fun KcZq hK=>?_
         go_simp;clear aX;have HCW:=ae (wr_slot Io HF HR18 (fun k hk=>by have h1:=HB18.out k hk;have h2:=F5.out;omega));rw[HSLI.1]at HCW;refine HCW.mono ?_;rintro e WE ⟨rfl,hp⟩;have hSF:Box WE wb 110 (Cx wr (.slice A t.length c))∧Box WE sb 108 (p7 sh db):=by obtain⟨V2,a2,_,o2⟩:=id hp;exact⟨o2.az MD (fun e=>by have:=F5.out;have e:wb=db∨wb=lb:=e;omega),a2.az⟩
         have HP:=ae (StoP.trans Io (fun k hk=>.inl hk) (Pp.mono fun k hk=>hk.elim) hp);clear hp HCW;refine lj hK ?_ fun aX=>?_
         ·first|exact hSF|exact⟨MD,Io.az⟩
         clear hK;refine jz ?_;have HSF:=ae hSF;clear aX hSF
         by_cases he:(d.write (slotI sh (wr 0) (wr 1)) (catS [(wr 2).toNat,(wr 3).toNat,11])).2=0
         ·have HE:=aH (stWrite sh size d wr t=((d.write (slotI sh (wr 0) (wr 1)) (catS [(wr 2).toNat,(wr 3).toNat,11])).1,11,0)) (by rw[HW0.out];unfold stEnd;rw[if_pos (by rw[Ca.out];exact LY.out),if_neg (fun h=>h he)]);rw[he];clear he;go_wp2_with fail;go_ret2;exact⟨by rw[HE.out];rfl,by rw[HE.out];exact HP⟩
         ·have hen:((d.write (slotI sh (wr 0) (wr 1)) (catS [(wr 2).toNat,(wr 3).toNat,11])).2 != 0)=true:=by simpa using he
          have HE:=aH (stWrite sh size d wr t=((d.write (slotI sh (wr 0) (wr 1)) (catS [(wr 2).toNat,(wr 3).toNat,11])).1,0,(d.write (slotI sh (wr 0) (wr 1)) (catS [(wr 2).toNat,(wr 3).toNat,11])).2)) (by rw[HW0.out];unfold stEnd;rw[if_pos (by rw[Ca.out];exact LY.out),if_pos he]);clear he;generalize hdw:d.write (slotI sh (wr 0) (wr 1)) (catS [(wr 2).toNat,(wr 3).toNat,11])=dwZq at *;obtain⟨d1,e1⟩:=dwZq;dsimp only at *;clear hdw;go_wp2_with fail;go_ret2;exact⟨by rw[HE.out];rfl,by rw[HE.out];exact HP⟩
       ·have LY:=ae hv;have hvb:((n1:Int)==1000)=false:=by simp;omega
        have HV:=ae (show n1+1≤1000 by have:=B9.out;have:=LY.out;omega);have hv1000:(n1:Int)<1000:=by have:=HV.out;omega
        have GJ:IntKind.i64.wrap ((n1:Int)+1)=(n1:Int)+1:=by rw[IntKind.wrap_i64];omega
        replace MD:=aH (Box W6.drew wb 110 (Cx wr (.slice A t.length c))) (MD)
        replace Io:=ae (Io.keep ((af.ak aA W6).drew))
        replace Pp:=aH (af aA w W6.drew) (Pp.drew)
        replace HDT:=aH (b8 W6.drew (.slice A t.length c) t) (HDT.ao ((af.ak aA W6).drew) fun _ _=>id)
        go_upto_region 20 with fail;refine kb (fun w':World=>Box w' wb 110 (Cx wr (.slice A t.length c))∧Box w' sb 108 (p7 sh db)) 17 ?_ ?_
        ·first|exact hSF|exact⟨MD,Io.az⟩
        intro aX;refine eZ [0] ?_;refine bj (i:=1) (v:=.int .i64 (wr 0)) (by kernel_rfl) rfl (by kernel_rfl) (fun _ _ _ h=>h) (.inl ⟨by rfl,?_⟩) aX ?_
        ·intro w hSw;have hq:=hSw.1.ag (i:=0) (v:=.int .i64 (wr 0)) rfl;clear hSw;go_simp;(try with_reducible rfl)
        refine sd ?_;refine eZ [2] ?_;refine bj (i:=3) (v:=.int .i64 (wr 1)) (by kernel_rfl) rfl (by kernel_rfl) (fun _ _ _ h=>h) (.inl ⟨by rfl,?_⟩) aX ?_
        ·intro w hSw;have hq:=hSw.1.ag (i:=1) (v:=.int .i64 (wr 1)) rfl;clear hSw;go_simp;(try with_reducible rfl)
        refine sd ?_;refine eZ [4] ?_;refine bj (i:=5) (v:=.int .i64 (wr 2)) (by kernel_rfl) rfl (by kernel_rfl) (fun _ _ _ h=>h) (.inl ⟨by rfl,?_⟩) aX ?_
        ·intro w hSw;have hq:=hSw.1.ag (i:=2) (v:=.int .i64 (wr 2)) rfl;clear hSw;go_simp;(try with_reducible rfl)
        refine sd ?_;refine eZ [6] ?_;refine bj (i:=7) (v:=.int .i64 (wr 3)) (by kernel_rfl) rfl (by kernel_rfl) (fun _ _ _ h=>h) (.inl ⟨by rfl,?_⟩) aX ?_
        ·intro w hSw;have hq:=hSw.1.ag (i:=3) (v:=.int .i64 (wr 3)) rfl;clear hSw;go_simp;(try with_reducible rfl)
        refine sd ?_;refine eZ [8] ?_;refine bj (i:=9) (v:=.int .i64 (wr 4)) (by kernel_rfl) rfl (by kernel_rfl) (fun _ _ _ h=>h) (.inl ⟨by rfl,?_⟩) aX ?_
        ·intro w hSw;have hq:=hSw.1.ag (i:=4) (v:=.int .i64 (wr 4)) rfl;clear hSw;go_simp;(try with_reducible rfl)
        refine sd ?_;refine eZ [10,11,14] ?_;refine bj (i:=15) (v:=(.slice A t.length c)) (by kernel_rfl) rfl (by kernel_rfl) (fun _ _ _ h=>h) (.inl ⟨by rfl,?_⟩) aX ?_
        ·intro w hSw;have hq:=hSw.1.ag (i:=5) (v:=(.slice A t.length c)) rfl;clear hSw;go_simp;(try with_reducible rfl)
        refine sd ?_;refine lh 12 fun KcZq hK=>?_
        go_simp;clear aX;change KcZq _ (W6.drew.alloc (.cells #[.int .i64 (wr 0),.int .i64 (wr 1),.int .i64 (wr 2),.int .i64 (wr 3),.int .i64 (wr 4),.int .i64 ((n1:Int)+1)] 3));have ho:=(af.ak aA W6.drew).alloc (.cells #[.int .i64 (wr 0),.int .i64 (wr 1),.int .i64 (wr 2),.int .i64 (wr 3),.int .i64 (wr 4),.int .i64 ((n1:Int)+1)] 3);have bx:Box (W6.drew.alloc (.cells #[.int .i64 (wr 0),.int .i64 (wr 1),.int .i64 (wr 2),.int .i64 (wr 3),.int .i64 (wr 4),.int .i64 ((n1:Int)+1)] 3)) W6.heap.size 3 #[.int .i64 (wr 0),.int .i64 (wr 1),.int .i64 (wr 2),.int .i64 (wr 3),.int .i64 (wr 4),.int .i64 ((n1:Int)+1)]:=Box.fresh W6.drew 3 #[.int .i64 (wr 0),.int .i64 (wr 1),.int .i64 (wr 2),.int .i64 (wr 3),.int .i64 (wr 4),.int .i64 ((n1:Int)+1)];generalize W6.drew.alloc (.cells #[.int .i64 (wr 0),.int .i64 (wr 1),.int .i64 (wr 2),.int .i64 (wr 3),.int .i64 (wr 4),.int .i64 ((n1:Int)+1)] 3)=W12_W6 at *
        replace MD:=aH (Box W12_W6 wb 110 (Cx wr (.slice A t.length c))) (ho.az (MD) id)
        replace Io:=aH (gF W12_W6 sb db lb V sh d) ((Io).keep ho)
        replace Pp:=aH (af aA w W12_W6) ((Pp).trans ho)
        replace HDT:=aH (b8 W12_W6 (.slice A t.length c) t) ((HDT).ao ho fun _ _=>id)
        generalize W6.heap.size=g12 at *;have HX12:=ae bx;clear ho bx;refine lj hK ?_ fun aX=>?_
        ·first|exact hSF|exact⟨MD,Io.az⟩
        clear hK;refine lh 13 fun KcZq hK=>?_
        go_simp;clear aX;refine(wr_num6 Io.zW HX12 HF MF HV).mono ?_;rintro e W13_W6 ⟨v13,rfl,hr,ho,hb⟩;obtain⟨A13,OI,K5,hcc,w9⟩:=hr.shape;subst K5;clear hcc w9;rw[cE]at hr hb
        try rw[cE]
        generalize(catS [(wr 0).toNat,(wr 1).toNat,(wr 2).toNat,(wr 3).toNat,(wr 4).toNat,n1+1]).length=n13 at hr hb ⊢
        replace MD:=aH (Box W13_W6 wb 110 (Cx wr (.slice A t.length c))) (ho.az (MD) id)
        replace Io:=aH (gF W13_W6 sb db lb V sh d) ((Io).keep ho)
        replace Pp:=aH (af aA w W13_W6) ((Pp).trans ho)
        replace HDT:=aH (b8 W13_W6 (.slice A t.length c) t) ((HDT).ao ho fun _ _=>id)
        replace HX12:=aH (Box W13_W6 g12 3 #[.int .i64 (wr 0),.int .i64 (wr 1),.int .i64 (wr 2),.int .i64 (wr 3),.int .i64 (wr 4),.int .i64 ((n1:Int)+1)]) (ho.az (HX12) id)
        have HR13:=ae hr;clear hr ho hb;refine lj hK ?_ fun aX=>?_
        ·first|exact hSF|exact⟨MD,Io.az⟩
        clear hK;refine lh 16 fun KcZq hK=>?_
        go_simp;clear aX;have HGQ:w.heap.size≤W13_W6.heap.size:=Pp.size;refine(wr_txt HR13 HDT FR).mono ?_;rintro e W16_W6 ⟨v16,rfl,hr,ho,hb⟩;obtain⟨A16,B2,OB,hcc,w9⟩:=hr.shape;subst OB;clear hcc w9;rw[cE]at hr hb
        try rw[cE]
        generalize(jrS (wr 0).toNat (wr 1).toNat (wr 2).toNat (wr 3).toNat (wr 4).toNat (n1+1) t).length=n16 at hr hb ⊢
        replace MD:=aH (Box W16_W6 wb 110 (Cx wr (.slice A t.length c))) (ho.az (MD) id)
        replace Io:=aH (gF W16_W6 sb db lb V sh d) ((Io).keep ho)
        replace Pp:=aH (af aA w W16_W6) ((Pp).trans ho)
        replace HDT:=aH (b8 W16_W6 (.slice A t.length c) t) ((HDT).ao ho fun _ _=>id)
        replace HX12:=aH (Box W16_W6 g12 3 #[.int .i64 (wr 0),.int .i64 (wr 1),.int .i64 (wr 2),.int .i64 (wr 3),.int .i64 (wr 4),.int .i64 ((n1:Int)+1)]) (ho.az (HX12) id)
        replace HR13:=aH (Row 5 W16_W6 (.slice A13 n13 OI) (bytes (catS [(wr 0).toNat,(wr 1).toNat,(wr 2).toNat,(wr 3).toNat,(wr 4).toNat,n1+1]))) ((HR13).ao ho fun _ _=>id)
        have HR16:=ae hr;have HB16:=aH (∀k,aJ (.slice A16 n16 B2) k→w.heap.size≤k) (fun k hk=>Nat.le_trans HGQ (hb k hk));clear hr ho hb HGQ HX12 HR13;refine lj hK ?_ fun aX=>?_
        ·first|exact hSF|exact⟨MD,Io.az⟩
        clear hK;refine jz ?_;clear aX;generalize W16_W6=W7 at *;have HCW:=ae (wr_jr Io HF MF HV FR Mo HR16 (fun k hk=>by have h1:=HB16.out k hk;have h2:=F5.out;omega));have y4:=(dP Io).2.2.2.2;have HW1:=ae (HW0.trans (stEnd_jr (by rw[Ca.out];exact LY)));rw[Ca.out]at HW1;go_upto_region 22 with(go_at_call 100;refine HCW.mono ?_;rintro e W8 ⟨rfl,hp⟩;have HP:=ae hp;clear hp);clear y4 HCW;generalize hdw:d.write 0 (jrS (wr 0).toNat (wr 1).toNat (wr 2).toNat (wr 3).toNat (wr 4).toNat (n1+1) t)=dwZq at *;obtain⟨d1,e1⟩:=dwZq;dsimp only at *;clear hdw
        by_cases he:e1=0
        ·subst he;rw[if_neg (fun h=>h rfl)]at HW1;obtain⟨V1,CL,Ai,a8⟩:=HP.out;have jY:=a8.az MD (fun e=>by have:=F5.out;have e:wb=db∨wb=lb:=e;omega);have HBX1:=ae jY;have hdt:b8 W8 (.slice A t.length c) t:=HDT.keep a8 fun h0 k hk _ e=>by have:=HDD.out h0 k hk;omega
         have HDO:=ae (sto_does CL HF MF hdt FR Mo HV);have Dj:=aH (∀w',StoP sb db lb V1 sh (stDoes sh d1 wr t (n1+1)).1 W8 w'→StoP sb db lb V sh (stDoes sh d1 wr t (n1+1)).1 w w') (fun w' hq=>StoP.trans Io (fun k hk=>.inl hk) (Pp.mono fun k hk=>hk.elim) (StoP.trans CL Ai a8 hq));clear CL Ai a8 jY hdt HP;rw[show(((n1+1:Nat)):Int)=(n1:Int)+1 from rfl]at HDO;go_wp2_with (first|(refine pL (Cx wr (.slice A t.length c)) HBX1 Tryz.underlying110 ?_)|(go_at_call 58;refine HDO.mono ?_;rintro e WF ⟨rfl,hq⟩));go_ret2;exact⟨by rw[HW1.out];rfl,by rw[HW1.out];exact Dj _ hq⟩
        ·have hen:(e1 != 0)=true:=by simpa using he
         rw[if_pos he]at HW1;clear he;go_wp2_with fail;go_ret2;exact⟨by rw[HW1.out];rfl,by rw[HW1.out];exact StoP.trans Io (fun k hk=>.inl hk) (Pp.mono fun k hk=>hk.elim) HP⟩
   ·have HE:=ae (stWrite_10 (d:=d) (wr:=wr) MF ht);have htb:((t.length:Int) != sh 1)=true:=by rw[Pd.out];simpa using fun e:(t.length:Int)=size=>ht (by omega)
    clear ht
    replace MD:=aH (Box W2.drew wb 110 (Cx wr (.slice A t.length c))) (MD)
    replace Io:=ae (Io.keep ((af.ak aA W2).drew))
    replace Pp:=aH (af aA w W2.drew) (Pp.drew)
    replace HDT:=aH (b8 W2.drew (.slice A t.length c) t) (HDT.ao ((af.ak aA W2).drew) fun _ _=>id)
    go_upto_region 5 with fail;refine kb (fun w':World=>Box w' wb 110 (Cx wr (.slice A t.length c))∧Box w' sb 108 (p7 sh db)) 9 ?_ ?_
    ·first|exact hSF|exact⟨MD,Io.az⟩
    intro aX;refine eZ [0] ?_;refine bj (i:=1) (v:=(.slice A t.length c)) (by kernel_rfl) rfl (by kernel_rfl) (fun _ _ _ h=>h) (.inl ⟨by rfl,?_⟩) aX ?_
    ·intro w hSw;have hq:=hSw.1.ag (i:=5) (v:=(.slice A t.length c)) rfl;clear hSw;go_simp;(try with_reducible rfl)
    refine sd ?_;refine eZ [2,3,4,5,6] ?_;refine bj (i:=7) (v:=.int .i64 (sh 1)) (by kernel_rfl) rfl (by kernel_rfl) (fun _ _ _ h=>h) (.inl ⟨by rfl,?_⟩) aX ?_
    ·intro w hSw;have hq:=hSw.2.ag (i:=1) (v:=.int .i64 (sh 1)) rfl;clear hSw;go_simp;(try with_reducible rfl)
    refine sd ?_;refine eZ [8] ?_;refine jz ?_;clear aX;generalize W2.drew=W3 at *;go_wp2_with fail;go_ret2;exact⟨by rw[HE.out];rfl,by rw[HE.out];exact StoP.keep HH Pp⟩
  ·have HE:=ae (stWrite_9 (size:=size) (d:=d) (t:=t) (sh:=sh) (wr:=wr) fun h=>h1 h.2);have h1n:sh 0≤wr 4:=by omega
   replace MD:=aH (Box W1.drew wb 110 (Cx wr (.slice A t.length c))) (MD)
   replace Io:=ae (Io.keep ((af.ak aA W1).drew))
   replace Pp:=aH (af aA w W1.drew) (Pp.drew)
   replace HDT:=aH (b8 W1.drew (.slice A t.length c) t) (HDT.ao ((af.ak aA W1).drew) fun _ _=>id)
   go_upto_region 3 with fail;refine kb (fun w':World=>Box w' wb 110 (Cx wr (.slice A t.length c))∧Box w' sb 108 (p7 sh db)) 13 ?_ ?_
   ·first|exact hSF|exact⟨MD,Io.az⟩
   intro aX;refine eZ [0] ?_;refine bj (i:=1) (v:=.int .i64 (wr 4)) (by kernel_rfl) rfl (by kernel_rfl) (fun _ _ _ h=>h) (.inl ⟨by rfl,?_⟩) aX ?_
   ·intro w hSw;have hq:=hSw.1.ag (i:=4) (v:=.int .i64 (wr 4)) rfl;clear hSw;go_simp;(try with_reducible rfl)
   refine sd ?_;refine eZ [2,3,4] ?_;refine bj (i:=5) (v:=.int .i64 (wr 4)) (by kernel_rfl) rfl (by kernel_rfl) (fun _ _ _ h=>h) (.inl ⟨by rfl,?_⟩) aX ?_
   ·intro w hSw;have hq:=hSw.1.ag (i:=4) (v:=.int .i64 (wr 4)) rfl;clear hSw;go_simp;(try with_reducible rfl)
   refine sd ?_;refine eZ [6,7,8,9] ?_;refine bj (i:=10) (v:=.int .i64 (sh 0)) (by kernel_rfl) rfl (by kernel_rfl) (fun _ _ _ h=>h) (.inl ⟨by rfl,?_⟩) aX ?_
   ·intro w hSw;have hq:=hSw.2.ag (i:=0) (v:=.int .i64 (sh 0)) rfl;clear hSw;go_simp;(try with_reducible rfl)
   refine sd ?_;refine eZ [11,12] ?_;refine jz ?_;clear aX;generalize W1.drew=W2 at *;go_wp2_with fail;go_ret2;exact⟨by rw[HE.out];rfl,by rw[HE.out];exact StoP.keep HH Pp⟩
 ·have HE:=ae (stWrite_9 (size:=size) (d:=d) (t:=t) (sh:=sh) (wr:=wr) fun h=>h0 h.1);have h0n:wr 4<0:=by omega
  replace MD:=aH (Box W1.drew wb 110 (Cx wr (.slice A t.length c))) (MD)
  replace Io:=ae (Io.keep ((af.ak aA W1).drew))
  replace Pp:=aH (af aA w W1.drew) (Pp.drew)
  replace HDT:=aH (b8 W1.drew (.slice A t.length c) t) (HDT.ao ((af.ak aA W1).drew) fun _ _=>id)
  go_upto_region 3 with fail;refine kb (fun w':World=>Box w' wb 110 (Cx wr (.slice A t.length c))∧Box w' sb 108 (p7 sh db)) 13 ?_ ?_
  ·first|exact hSF|exact⟨MD,Io.az⟩
  intro aX;refine eZ [0] ?_;refine bj (i:=1) (v:=.int .i64 (wr 4)) (by kernel_rfl) rfl (by kernel_rfl) (fun _ _ _ h=>h) (.inl ⟨by rfl,?_⟩) aX ?_
  ·intro w hSw;have hq:=hSw.1.ag (i:=4) (v:=.int .i64 (wr 4)) rfl;clear hSw;go_simp;(try with_reducible rfl)
  refine sd ?_;refine JR [2,3,4,5,6,7,8,9,10,11,12] ?_;refine jz ?_;clear aX;generalize W1.drew=W2 at *;go_wp2_with fail;go_ret2;exact⟨by rw[HE.out];rfl,by rw[HE.out];exact StoP.keep HH Pp⟩
end
end Go.Proofs.YtpcfhbeakecihaaGreat

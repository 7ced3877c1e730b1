/- Lemmas. -/
import Derived.Test.YtpcfhbeakecihaaGreatM26
import Derived.Test.YtpcfhbeakecihaaGreatM27
set_option linter.all false
set_option maxHeartbeats 20000000
set_option maxRecDepth 100000
namespace Go.Proofs.YtpcfhbeakecihaaGreat
open Go.ChangeShapes Go.RowKit Go.WideShapes
theorem bitLenAux_le:∀(f x:Nat),Lib.bitLenAux f x≤f
 |0,x=>by simp[Lib.bitLenAux]
 |f+1,x=>by
  unfold Lib.bitLenAux
  split
  ·omega
  ·have:=bitLenAux_le f (x / 2);omega
theorem bitLen_le (x:Nat):Lib.bitLen x≤64:=bitLenAux_le 64 x
theorem gZ.drew {w:World}{p g eb:Nat}{P:cI}{s:cC}(h:gZ w p g eb P s):gZ w.drew p g eb P s:=h.ar (F:=au) ((af.ai au w).drew) id id id
section
variable {w:World}{p g eb:Nat}{P:cI}{s:cC}
theorem p6 (h:gZ w p g eb P s):Calls Tryz.prog 207 #[aO p] w fun e w'=>e= .returned (ah P.q)∧w=w':=by
 have x2:=h.m.q;clear h
 go_enter Tryz.func207,Tryz.ntmps207
 go_wp2_with fail;go_ret;exact⟨rfl,rfl⟩
theorem jI{P:Prop}(h:P:=by
 go_enter Tryz.func199,Tryz.ntmps199
 go_wp2_with (first|(go_at_call 190;refine HO.mono ?_;rintro e W1 ⟨rfl,rfl⟩)|(go_at_call 207;refine HG.mono ?_;rintro e W1 ⟨rfl,rfl⟩));go_ret;exact⟨rfl,rfl⟩):P:=h
theorem zu (b:Int)(h:gZ w p g eb P s)(hd:xH (P.q+1) s.S):Calls Tryz.prog 199 #[aO p,ah b] w fun e w'=>e= .returned (.bool (decide (b∈aI P s)))∧w=w':=by
 have x0:=h.m.ptr;have HG:=ae<|p6 h
 by_cases hb:∃i,b∈s.S i
 ·obtain⟨i,hi⟩:=hb;have HO:=ae<|BF (i:=i) w h.sp hi;have uD:i<P.q+1:=by
   rcases Nat.lt_or_ge i (P.q+1)with h|h
   ·exact h
   ·rw[hd.out i h]at hi;cases hi
  by_cases hq:i<P.q
  ·rw[decide_eq_true (cw.2 ⟨i,hq,hi⟩)];have qY:(i:Int)<P.q:=aj;clear h hi hd uD hq;exact jI
  ·have hn:b∉aI P s:=fun hm=>by
    obtain⟨j,hj,h2⟩:=cw.1 hm;have:=hd.dj hi h2;omega
   rw[decide_eq_false hn];have qY:¬(i:Int)<P.q:=aj;have Wb:decide (i<P.q)=false:=decide_eq_false hq;have hqn:P.q≤i:=aj;clear h hi hd uD hq hn;exact jI
 ·have HO:=ae<|Fv w h.sp fun i hi=>hb ⟨i,hi⟩;have hn:b∉aI P s:=fun hm=>by
   obtain⟨j,hj,h2⟩:=cw.1 hm;exact hb ⟨j,h2⟩
  rw[decide_eq_false hn];clear h hd hb hn;exact jI
theorem B4 {n:Nat}(hn:n<64)(hP:P.Ok)(h:gZ w p g eb P s)(h0:0≤s.now)(h1:s.now≤2000000000):
 Calls Tryz.prog 208 #[aO p,ah n] w fun e w'=>e= .returned (.tuple #[])∧gZ w' p g eb P {s with exp:=aV s.exp n (s.now+P.iC)}∧af (az p) w w':=by
 have x3:aF w.drew p 3 P.iC:=h.m.iC;have x5:aF w.drew p 5 s.now:=h.m.now;have xe:aF w.drew p (70+n) (s.exp n):=h.m.exp hn;have fe:w.drew.frozen? ⟨p,70+n,none⟩=false:=Box.free h.m _;have HH:=ae h;have hl:=hP.XP;have hw:IntKind.i64.wrap (s.now+P.iC)=s.now+P.iC:=by rw[IntKind.wrap_i64];omega
 have HN:=ae hn;have qM:(n:Int)<64:=aj;have yR:(0:Int)≤n:=aj;clear h hP
 go_enter Tryz.func208,Tryz.ntmps208
 refine gg (fun w':World=>w'=w.drew) 15 ?_ ?_
 ·rfl
 intro aC;refine bE [0,1,2,3,4,5,6,7,8,9,10,11,12,13,14] ?_;refine dE ?_;clear aC;go_wp2
 go_end0
 exact⟨rfl,(HH.DL HN _).drew,((af.ai (az p) w).setCell (p:=⟨p,70+n,none⟩) (.inl (show az p p from rfl)) _).drew⟩
theorem B6 {n:Nat}(hn:n<64)(hP:P.Ok)(h:gZ w p g eb P s)(h0:0≤s.now)(h1:s.now≤2000000000)(ho:1≤s.often n)(bq:s.often n≤2000000000):
 Calls Tryz.prog 205 #[aO p,ah n] w fun e w'=>e= .returned (.tuple #[])∧gZ w' p g eb P (ea P s n)∧af (wY p g eb) w w':=by
 have x0:=h.m.ptr;have x2:=h.m.q;have xo:=h.m.often hn;have qM:(n:Int)<64:=aj;have yR:(0:Int)≤n:=aj;have HH:=ae h;have HN:=ae hn;have HP:=ae hP;have uv:=aq (0≤s.now∧s.now≤2000000000) (⟨h0,h1⟩);have HL:=aq (JT P (s.often n)=min (Lib.bitLen (s.often n).toNat - 1) (P.q - 1)) (rfl);have Fa:1≤Lib.bitLen (s.often n).toNat:=by
  rw[Lib.bitLen_half _ aj aj];omega
 have aaY:Lib.bitLen (s.often n).toNat≤64:=bitLen_le _;have Gu:=ae<|(CA (s.often n) w aj aj).mono fun e w' (h:_∧w'=w)=>(⟨h.1,h.2.symm⟩:_∧w=w');have uZ:=aq (ea P s n=fM P s (JT P (s.often n)) n) (rfl);generalize s.often n=om at *;generalize Lib.bitLen om.toNat=bl at *;clear h hP h0 h1
 go_enter Tryz.func205,Tryz.ntmps205
 go_upto_region 1 with(go_at_call 209;refine Gu.mono ?_;rintro e W1 ⟨rfl,rfl⟩);obtain⟨k,rfl⟩:∃k,bl=k+1:=⟨bl - 1,aj⟩;obtain⟨Q1,hQ1⟩:∃Q1,P.q=Q1+1:=⟨P.q - 1,by have:=HP.q1;omega⟩;rw[show(((k+1:Nat):Int) - 1)=(k:Int) by omega];rw[hQ1]at HL;have hqw:IntKind.i64.wrap ((P.q:Int) - 1)=(Q1:Int):=by have:=HP.q8;rw[IntKind.wrap_i64];omega
 have AJ:=ae hQ1;clear hQ1 xo ho bq Fa aaY Gu;generalize(P.q:Int)=Qi at *;have HKQ:=ae (show JT P om=min k Q1 by rw[HL.out];omega);clear HL;refine gg (fun w':World=>w'=w.drew) 14 ?_ ?_
 ·rfl
 intro aC;refine bE [0,1,2,3,4,5,6,7,8,9,10,11,12,13] ?_;refine dE ?_;have HF:=iW (i:=min k Q1) w.drew HH.drew.sp (by have:=AJ.out;omega) HN;rw[show((min k Q1:Nat):Int)=min (k:Int) (Q1:Int) by omega]at HF;have Gs:=ae HF;have HE:=ae (show ea P s n= {{s with S:=uA s.S (min k Q1) n} with exp:=aV s.exp n (s.now+P.iC)} by rw[uZ.out,HKQ.out];rfl);clear HF aC x0 x2 hqw HKQ uZ;go_wp2_with (first|(go_at_call 188;refine Gs.mono ?_;rintro e W2 ⟨rfl,uC,bq⟩;have Dj:=ae<|HH.drew.step bq uC;have Sr:=ae<|B4 HN HP Dj uv.1 uv.2;have bu:=ae bq;clear uC bq)|(go_at_call 208;refine Sr.mono ?_;rintro e W3 ⟨rfl,Dd,bV⟩))
 go_end0
 rw[HE.out];exact⟨rfl,Dd,(((af.ai (wY p g eb) w).drew).aG bu fun k hk=>.inl hk.Nt).aG bV fun k hk=>.inl (.inl hk)⟩
end
end Go.Proofs.YtpcfhbeakecihaaGreat

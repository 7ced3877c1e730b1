/- Lemmas. -/
import Derived.Test.YtpcfhbeakecihaaGreatM27
import Derived.Test.YtpcfhbeakecihaaGreatM28
set_option linter.all false
set_option maxHeartbeats 20000000
set_option maxRecDepth 100000
namespace Go.Proofs.YtpcfhbeakecihaaGreat
open Go.ChangeShapes Go.RowKit Go.WideShapes
theorem bitLenAux_le:∀(f x:Nat),Lib.bitLenAux f x≤f
 |0,x=>by simp[Lib.bitLenAux]
 |f+1,x=>by
  unfold Lib.bitLenAux
  split
  ·omega
  ·have:=bitLenAux_le f (x / 2);omega
theorem bitLen_le (x:Nat):Lib.bitLen x≤64:=bitLenAux_le 64 x
theorem cJ.drew {w:World}{p g eb:Nat}{P:bM}{s:bu}(h:cJ w p g eb P s):cJ w.drew p g eb P s:=h.ao (F:=aA) ((af.ak aA w).drew) id id id
section
variable {w:World}{p g eb:Nat}{P:bM}{s:bu}
theorem gR (h:cJ w p g eb P s):Calls Tryz.prog 207 #[aI p] w fun e w'=>e= .returned (ah P.q)∧w=w':=by
 have x2:=h.m.q;clear h
 go_enter Tryz.func207,Tryz.ntmps207
 go_wp2_with fail;go_ret;exact⟨rfl,rfl⟩
theorem dD{P:Prop}(h:P:=by
 go_enter Tryz.func199,Tryz.ntmps199
 go_wp2_with (first|(go_at_call 190;refine HO.mono ?_;rintro e W1 ⟨rfl,rfl⟩)|(go_at_call 207;refine HG.mono ?_;rintro e W1 ⟨rfl,rfl⟩));go_ret;exact⟨rfl,rfl⟩):P:=h
theorem mW (b:Int)(h:cJ w p g eb P s)(hd:pY (P.q+1) s.S):Calls Tryz.prog 199 #[aI p,ah b] w fun e w'=>e= .returned (.bool (decide (b∈ar P s)))∧w=w':=by
 have x0:=h.m.ptr;have HG:=ae<|gR h
 by_cases hb:∃i,b∈s.S i
 ·obtain⟨i,hi⟩:=hb;have HO:=ae<|oq (i:=i) w h.sp hi;have pX:i<P.q+1:=by
   rcases Nat.lt_or_ge i (P.q+1)with h|h
   ·exact h
   ·rw[hd.out i h]at hi;cases hi
  by_cases hq:i<P.q
  ·rw[decide_eq_true (bh.2 ⟨i,hq,hi⟩)];have Kd:(i:Int)<P.q:=ai;clear h hi hd pX hq;exact dD
  ·have hn:b∉ar P s:=fun hm=>by
    obtain⟨j,hj,h2⟩:=bh.1 hm;have:=hd.dj hi h2;omega
   rw[decide_eq_false hn];have Kd:¬(i:Int)<P.q:=ai;have NG:decide (i<P.q)=false:=decide_eq_false hq;have Qw:P.q≤i:=ai;clear h hi hd pX hq hn;exact dD
 ·have HO:=ae<|rC w h.sp fun i hi=>hb ⟨i,hi⟩;have hn:b∉ar P s:=fun hm=>by
   obtain⟨j,hj,h2⟩:=bh.1 hm;exact hb ⟨j,h2⟩
  rw[decide_eq_false hn];clear h hd hb hn;exact dD
theorem oN {n:Nat}(hn:n<64)(hP:P.Ok)(h:cJ w p g eb P s)(h0:0≤s.now)(h1:s.now≤2000000000):
 Calls Tryz.prog 208 #[aI p,ah n] w fun e w'=>e= .returned (.tuple #[])∧cJ w' p g eb P {s with exp:=aD s.exp n (s.now+P.gv)}∧af (aM p) w w':=by
 have x3:aF w.drew p 3 P.gv:=h.m.gv;have x5:aF w.drew p 5 s.now:=h.m.now;have xe:aF w.drew p (70+n) (s.exp n):=h.m.exp hn;have fe:w.drew.frozen? ⟨p,70+n,none⟩=false:=Box.free h.m _;have HH:=ae h;have hl:=hP.IU;have hw:IntKind.i64.wrap (s.now+P.gv)=s.now+P.gv:=by rw[IntKind.wrap_i64];omega
 have HN:=ae hn;have rk:(n:Int)<64:=ai;have wF:(0:Int)≤n:=ai;clear h hP
 go_enter Tryz.func208,Tryz.ntmps208
 refine kb (fun w':World=>w'=w.drew) 15 ?_ ?_
 ·rfl
 intro aX;refine eZ [0,1,2,3,4,5,6,7,8,9,10,11,12,13,14] ?_;refine jz ?_;clear aX;go_wp2
 go_end0
 exact⟨rfl,(HH.qe HN _).drew,((af.ak (aM p) w).setCell (p:=⟨p,70+n,none⟩) (.inl (show aM p p from rfl)) _).drew⟩
theorem oO {n:Nat}(hn:n<64)(hP:P.Ok)(h:cJ w p g eb P s)(h0:0≤s.now)(h1:s.now≤2000000000)(ho:1≤s.often n)(bd:s.often n≤2000000000):
 Calls Tryz.prog 205 #[aI p,ah n] w fun e w'=>e= .returned (.tuple #[])∧cJ w' p g eb P (dM P s n)∧af (lr p g eb) w w':=by
 have x0:=h.m.ptr;have x2:=h.m.q;have xo:=h.m.often hn;have rk:(n:Int)<64:=ai;have wF:(0:Int)≤n:=ai;have HH:=ae h;have HN:=ae hn;have HP:=ae hP;have nP:=aH (0≤s.now∧s.now≤2000000000) (⟨h0,h1⟩);have HL:=aH (zX P (s.often n)=min (Lib.bitLen (s.often n).toNat - 1) (P.q - 1)) (rfl);have Hk:1≤Lib.bitLen (s.often n).toNat:=by
  rw[Lib.bitLen_half _ ai ai];omega
 have Jh:Lib.bitLen (s.often n).toNat≤64:=bitLen_le _;have MG:=ae<|(pk (s.often n) w ai ai).mono fun e w' (h:_∧w'=w)=>(⟨h.1,h.2.symm⟩:_∧w=w');have B7:=aH (dM P s n=hX P s (zX P (s.often n)) n) (rfl);generalize s.often n=om at *;generalize Lib.bitLen om.toNat=bl at *;clear h hP h0 h1
 go_enter Tryz.func205,Tryz.ntmps205
 go_upto_region 1 with(go_at_call 209;refine MG.mono ?_;rintro e W1 ⟨rfl,rfl⟩);obtain⟨k,rfl⟩:∃k,bl=k+1:=⟨bl - 1,ai⟩;obtain⟨Q1,H6⟩:∃Q1,P.q=Q1+1:=⟨P.q - 1,by have:=HP.q1;omega⟩;rw[show(((k+1:Nat):Int) - 1)=(k:Int) by omega];rw[H6]at HL;have ND:IntKind.i64.wrap ((P.q:Int) - 1)=(Q1:Int):=by have:=HP.q8;rw[IntKind.wrap_i64];omega
 have Dh:=ae H6;clear H6 xo ho bd Hk Jh MG;generalize(P.q:Int)=Qi at *;have Mk:=ae (show zX P om=min k Q1 by rw[HL.out];omega);clear HL;refine kb (fun w':World=>w'=w.drew) 14 ?_ ?_
 ·rfl
 intro aX;refine eZ [0,1,2,3,4,5,6,7,8,9,10,11,12,13] ?_;refine jz ?_;have HF:=di (i:=min k Q1) w.drew HH.drew.sp (by have:=Dh.out;omega) HN;rw[show((min k Q1:Nat):Int)=min (k:Int) (Q1:Int) by omega]at HF;have sn:=ae HF;have HE:=ae (show dM P s n= {{s with S:=nK s.S (min k Q1) n} with exp:=aD s.exp n (s.now+P.gv)} by rw[B7.out,Mk.out];rfl);clear HF aX x0 x2 ND Mk B7;go_wp2_with (first|(go_at_call 188;refine sn.mono ?_;rintro e W2 ⟨rfl,pO,bd⟩;have pS:=ae<|HH.drew.step bd pO;have Ir:=ae<|oN HN HP pS nP.1 nP.2;have bR:=ae bd;clear pO bd)|(go_at_call 208;refine Ir.mono ?_;rintro e W3 ⟨rfl,Ah,bQ⟩))
 go_end0
 rw[HE.out];exact⟨rfl,Ah,(((af.ak (lr p g eb) w).drew).aE bR fun k hk=>.inl hk.wW).aE bQ fun k hk=>.inl (.inl hk)⟩
end
end Go.Proofs.YtpcfhbeakecihaaGreat

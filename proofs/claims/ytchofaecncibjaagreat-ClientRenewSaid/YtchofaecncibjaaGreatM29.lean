/- Lemmas. -/
import Derived.Test.YtchofaecncibjaaGreatM27
import Derived.Test.YtchofaecncibjaaGreatM28
set_option linter.all false
set_option maxHeartbeats 20000000
set_option maxRecDepth 100000
namespace Go.Proofs.YtchofaecncibjaaGreat
open Go.ChangeShapes Go.RowKit Go.WideShapes
theorem bitLenAux_le:∀(f x:Nat),Lib.bitLenAux f x≤f
 |0,x=>by simp[Lib.bitLenAux]
 |f+1,x=>by
  unfold Lib.bitLenAux
  split
  ·omega
  ·have:=bitLenAux_le f (x / 2);omega
theorem bitLen_le (x:Nat):Lib.bitLen x≤64:=bitLenAux_le 64 x
theorem jW.drew {w:World}{p g eb:Nat}{P:dN}{s:dB}(h:jW w p g eb P s):jW w.drew p g eb P s:=h.aA (F:=az) ((ag.aj az w).drew) id id id
section
variable {w:World}{p g eb:Nat}{P:dN}{s:dB}
theorem tT (h:jW w p g eb P s):Calls Tryz.prog 206 #[aO p] w fun e w'=>e= .returned (ah P.q)∧w=w':=by
 have x2:=h.m.q;clear h
 go_enter Tryz.func206,Tryz.ntmps206
 go_wp2_with fail;go_ret;exact⟨rfl,rfl⟩
theorem lW{P:Prop}(h:P:=by
 go_enter Tryz.func198,Tryz.ntmps198
 go_wp2_with (first|(go_at_call 146;refine HO.mono ?_;rintro e W1 ⟨rfl,rfl⟩)|(go_at_call 206;refine HG.mono ?_;rintro e W1 ⟨rfl,rfl⟩));go_ret;exact⟨rfl,rfl⟩):P:=h
theorem Fj (b:Int)(h:jW w p g eb P s)(hd:DP (P.q+1) s.S):Calls Tryz.prog 198 #[aO p,ah b] w fun e w'=>e= .returned (.bool (decide (b∈aV P s)))∧w=w':=by
 have x0:=h.m.ptr;have HG:=ae<|tT h
 by_cases hb:∃i,b∈s.S i
 ·obtain⟨i,hi⟩:=hb;have HO:=ae<|BD (i:=i) w h.sp hi;have CQ:i<P.q+1:=by
   rcases Nat.lt_or_ge i (P.q+1)with h|h
   ·exact h
   ·rw[hd.out i h]at hi;cases hi
  by_cases hq:i<P.q
  ·rw[decide_eq_true (dz.2 ⟨i,hq,hi⟩)];have U3:(i:Int)<P.q:=ao;clear h hi hd CQ hq;exact lW
  ·have hn:b∉aV P s:=fun hm=>by
    obtain⟨j,hj,h2⟩:=dz.1 hm;have:=hd.dj hi h2;omega
   rw[decide_eq_false hn];have U3:¬(i:Int)<P.q:=ao;have hqd:decide (i<P.q)=false:=decide_eq_false hq;have hqn:P.q≤i:=ao;clear h hi hd CQ hq hn;exact lW
 ·have HO:=ae<|MH w h.sp fun i hi=>hb ⟨i,hi⟩;have hn:b∉aV P s:=fun hm=>by
   obtain⟨j,hj,h2⟩:=dz.1 hm;exact hb ⟨j,h2⟩
  rw[decide_eq_false hn];clear h hd hb hn;exact lW
theorem Iz {n:Nat}(hn:n<64)(hP:P.Ok)(h:jW w p g eb P s)(h0:0≤s.now)(h1:s.now≤2000000000):
 Calls Tryz.prog 207 #[aO p,ah n] w fun e w'=>e= .returned (.tuple #[])∧jW w' p g eb P {s with exp:=aT s.exp n (s.now+P.kL)}∧ag (ar p) w w':=by
 have x3:aw w.drew p 3 P.kL:=h.m.kL;have x5:aw w.drew p 5 s.now:=h.m.now;have xe:aw w.drew p (70+n) (s.exp n):=h.m.exp hn;have fe:w.drew.frozen? ⟨p,70+n,none⟩=false:=Box.free h.m _;have HH:=ae h;have hl:=hP.acu;have hw:IntKind.i64.wrap (s.now+P.kL)=s.now+P.kL:=by rw[IntKind.wrap_i64];omega
 have HN:=ae hn;have sS:(n:Int)<64:=ao;have wJ:(0:Int)≤n:=ao;clear h hP
 go_enter Tryz.func207,Tryz.ntmps207
 refine oa (fun w':World=>w'=w.drew) 15 ?_ ?_
 ·rfl
 intro aH;refine bX [0,1,2,3,4,5,6,7,8,9,10,11,12,13,14] ?_;refine cG ?_;clear aH;go_wp2
 go_end0
 exact⟨rfl,(HH.KQ HN _).drew,((ag.aj (ar p) w).setCell (p:=⟨p,70+n,none⟩) (.inl (show ar p p from rfl)) _).drew⟩
theorem IA {n:Nat}(hn:n<64)(hP:P.Ok)(h:jW w p g eb P s)(h0:0≤s.now)(h1:s.now≤2000000000)(ho:1≤s.often n)(bp:s.often n≤2000000000):
 Calls Tryz.prog 204 #[aO p,ah n] w fun e w'=>e= .returned (.tuple #[])∧jW w' p g eb P (fN P s n)∧ag (C6 p g eb) w w':=by
 have x0:=h.m.ptr;have x2:=h.m.q;have xo:=h.m.often hn;have sS:(n:Int)<64:=ao;have wJ:(0:Int)≤n:=ao;have HH:=ae h;have HN:=ae hn;have HP:=ae hP;have py:=aB (0≤s.now∧s.now≤2000000000) (⟨h0,h1⟩);have HL:=aB (QG P (s.often n)=min (Lib.bitLen (s.often n).toNat - 1) (P.q - 1)) (rfl);have Bc:1≤Lib.bitLen (s.often n).toNat:=by
  rw[Lib.bitLen_half _ ao ao];omega
 have afn:Lib.bitLen (s.often n).toNat≤64:=bitLen_le _;have Rf:=ae<|(I2 (s.often n) w ao ao).mono fun e w' (h:_∧w'=w)=>(⟨h.1,h.2.symm⟩:_∧w=w');have ui:=aB (fN P s n=iC P s (QG P (s.often n)) n) (rfl);generalize s.often n=om at *;generalize Lib.bitLen om.toNat=bl at *;clear h hP h0 h1
 go_enter Tryz.func204,Tryz.ntmps204
 go_upto_region 1 with(go_at_call 208;refine Rf.mono ?_;rintro e W1 ⟨rfl,rfl⟩);obtain⟨k,rfl⟩:∃k,bl=k+1:=⟨bl - 1,ao⟩;obtain⟨Q1,hQ1⟩:∃Q1,P.q=Q1+1:=⟨P.q - 1,by have:=HP.q1;omega⟩;rw[show(((k+1:Nat):Int) - 1)=(k:Int) by omega];rw[hQ1]at HL;have hqw:IntKind.i64.wrap ((P.q:Int) - 1)=(Q1:Int):=by have:=HP.q8;rw[IntKind.wrap_i64];omega
 have Gb:=ae hQ1;clear hQ1 xo ho bp Bc afn Rf;generalize(P.q:Int)=Qi at *;have HKQ:=ae (show QG P om=min k Q1 by rw[HL.out];omega);clear HL;refine oa (fun w':World=>w'=w.drew) 14 ?_ ?_
 ·rfl
 intro aH;refine bX [0,1,2,3,4,5,6,7,8,9,10,11,12,13] ?_;refine cG ?_;have HF:=kq (i:=min k Q1) w.drew HH.drew.sp (by have:=Gb.out;omega) HN;rw[show((min k Q1:Nat):Int)=min (k:Int) (Q1:Int) by omega]at HF;have NX:=ae HF;have HE:=ae (show fN P s n= {{s with S:=Ax s.S (min k Q1) n} with exp:=aT s.exp n (s.now+P.kL)} by rw[ui.out,HKQ.out];rfl);clear HF aH x0 x2 hqw HKQ ui;go_wp2_with (first|(go_at_call 105;refine NX.mono ?_;rintro e W2 ⟨rfl,kC,bp⟩;have nz:=ae<|HH.drew.step bp kC;have fv:=ae<|Iz HN HP nz py.1 py.2;have bf:=ae bp;clear kC bp)|(go_at_call 207;refine fv.mono ?_;rintro e W3 ⟨rfl,CZ,cB⟩))
 go_end0
 rw[HE.out];exact⟨rfl,CZ,(((ag.aj (C6 p g eb) w).drew).aC bf fun k hk=>.inl hk.UU).aC cB fun k hk=>.inl (.inl hk)⟩
end
end Go.Proofs.YtchofaecncibjaaGreat

/- Lemmas. -/
import Derived.Test.YtpcfhbeakecihaaGreatM2
import Derived.Test.YtpcfhbeakecihaaGreatM5
import Derived.Test.YtpcfhbeakecihaaGreatM12
import Derived.BigQuiet
import Derived.Deep.CutRange
set_option linter.all false
set_option maxHeartbeats 20000000
set_option maxRecDepth 100000
namespace Go.Proofs.YtpcfhbeakecihaaGreat
open Go.RowKit
theorem mH (n:Int)(h₀:0≤n)(h₁:n<2 ^ 64):IntKind.u64.wrap n=n:=by rw[IntKind.wrap_u64];omega
theorem TS (x i:Nat)(hx:x<18446744073709551616)(hi:i<64):bits .or .u64 x (2 ^ i)=((x ||| 2 ^ i:Nat):Int):=by
 have h:=(bits_nat .u64 64 aE mH x (2 ^ i) hx (Nat.pow_lt_pow_right aE hi)).2;rw[←h]
 push_cast
 rfl
def pO (l:List Nat):Nat:=l.foldl (fun a x=>a ||| 2 ^ x) 0
theorem Ci:∀(l:List Nat) (a:Nat),(∀x∈l,x<64)→a<2 ^ 64→l.foldl (fun a x=>a ||| 2 ^ x) a<2 ^ 64
 | [],a,_,h=>h
 |x :: l,a,hl,h=>Ci l _ (fun y hy=>hl y (List.mem_cons_of_mem _ hy)) (Nat.or_lt_two_pow h (Nat.pow_lt_pow_right aE (hl x List.mem_cons_self)))
theorem EP (l:List Nat)(k:Nat)(hk:k<l.length):pO (l.take (k+1))=pO (l.take k) ||| 2 ^ l.getD k 0:=by
 unfold pO;rw[List.take_add_one,List.getElem?_eq_getElem hk,List.foldl_append];simp[hk]
def Zv (l:List Nat)(W:World)(acc i:Value)(wr:World):Prop:=∃k:Nat,k≤l.length∧i=ah k∧acc= .int .u64 (pO (l.take k):Nat)∧W=wr
section
theorem MQ (l:List Nat)(g:Nat)(w:World)(hl:∀x∈l,x<64)(Se:l.length≤20)(hb:Box w g 3 (l.map fun x=>Value.int .i64 (x:Nat)).toArray):
 Calls Tryz.prog 120 #[bp g l.length l.length] w fun e w'=>e= .returned (.int .u64 (pO l:Nat))∧w=w':=by
 have HC:=aq (∀k,k<l.length→aF w g k (l.getD k 0:Nat)) (fun k hk=>hb.ag (by simp[hk]));have cD:=aq (∀k,k<l.length→l.getD k 0<64) (fun k hk=>hl _ (by simp[hk]));have NZ:=aq (∀k,pO (l.take k)<18446744073709551616) (fun k=>Ci _ 0 (fun x hx=>hl x (List.mem_of_mem_take hx)) aE);have HFU:=ae (show pO (l.take l.length)=pO l by rw[List.take_length]);have bQ:=ae<|EP l;clear hb hl
 go_enter Tryz.func120,Tryz.ntmps120
 go_wp2_with fail
 go_loopw [3,8] (fun acc i wr=>Zv l w acc i wr) (fun _ i _=>l.length - (intOf i).toNat)
 case atStart=>exact⟨0,fH _,rfl,rfl,rfl⟩
 case round=>
  obtain⟨k,hk,rfl,rfl,rfl⟩:=hrel
  by_cases aY:k<l.length
  ·have Bm:(k:Int)<l.length:=aj;have hc:=HC.out k aY;have hxl:=cD.out k aY;have je:=bQ.out k aY;have JZ:=NZ.out k;have acI:=TS (pO (l.take k)) (l.getD k 0) JZ hxl;generalize l.getD k 0=x at *;have aaG:IntKind.u64.wrap (2 ^ x)=2 ^ x:=mH _ (by have:(0:Int)≤((2 ^ x:Nat):Int):=Int.natCast_nonneg _;simpa using this) (by
    have:(2:Nat) ^ x<2 ^ 64:=Nat.pow_lt_pow_right aE hxl;have h2:((2 ^ x:Nat):Int)<((2 ^ 64:Nat):Int):=aj;simpa using h2)
   have ab1:(2:Int) ^ x % 18446744073709551616=2 ^ x:=by rw[←IntKind.wrap_u64];exact aaG
   have HSt:=ae je;clear je;generalize pO (l.take k)=acc at *;have Nz:IntKind.i64.wrap ((k:Int)+1)=((k+1:Nat):Int):=by rw[IntKind.wrap_i64];omega
   go_wp2_with fail;exact⟨⟨k+1,aY,by push_cast;rfl,by rw[HSt.out],rfl⟩,by simp[intOf];omega⟩
  ·have hk':k=l.length:=aj;subst hk';rw[HFU.out];go_wp2_with fail;go_ret;exact⟨rfl,rfl⟩
theorem dT (w:World)(l:List Nat)(N:Nat)(cs:Array Value)(hl:∀x∈l,x<64)(hN:pO l=N)(hcs:cs=(l.map fun x=>Value.int .i64 (x:Nat)).toArray)(Se:l.length≤20:=by decide):
 Calls Tryz.prog 120 #[bp w.heap.size l.length l.length] (w.alloc (.cells cs 3)) fun e w'=>e= .returned (.int .u64 (N:Nat))∧af au (w.alloc (.cells cs 3)) w':=by
 subst hcs hN;refine(MQ l w.heap.size _ hl Se (Box.fresh w 3 _)).mono ?_;rintro e w' ⟨rfl,rfl⟩;exact⟨rfl,af.ai _ _⟩
def tk:Array Value:=#[.int .u64 0,.int .u64 116,.int .u64 1140,.int .u64 1120,.int .u64 160,.int .u64 1908,.int .u64 884,.int .u64 160,.int .u64 96,.int .u64 1150,.int .u64 1120,.int .u64 32,.int .u64 1312,.int .u64 830,.int .u64 32]
theorem Et:tk.all (·.oneCell')=true:=by simp[tk,Value.oneCell']
theorem IE (w:World):Calls Tryz.prog 95 #[] w fun e w'=>e= .returned (.agg tk)∧af au w w':=by
 have HB:=ae<|Box.fresh w 173 #[.int .u64 0,.int .u64 0,.int .u64 0,.int .u64 0,.int .u64 0,.int .u64 0,.int .u64 0,.int .u64 0,.int .u64 0,.int .u64 0,.int .u64 0,.int .u64 0,.int .u64 0,.int .u64 0,.int .u64 0];have HO:=ae<|(af.ai au w).alloc (.cells #[.int .u64 0,.int .u64 0,.int .u64 0,.int .u64 0,.int .u64 0,.int .u64 0,.int .u64 0,.int .u64 0,.int .u64 0,.int .u64 0,.int .u64 0,.int .u64 0,.int .u64 0,.int .u64 0,.int .u64 0] 173)
 go_enter Tryz.func95,Tryz.ntmps95
 go_upto_region 1 with fail;change Code.wp _ _ _ _ (w.alloc (.cells #[.int .u64 0,.int .u64 0,.int .u64 0,.int .u64 0,.int .u64 0,.int .u64 0,.int .u64 0,.int .u64 0,.int .u64 0,.int .u64 0,.int .u64 0,.int .u64 0,.int .u64 0,.int .u64 0,.int .u64 0] 173));obtain⟨nb,R6⟩:∃nb,nb=w.heap.size:=⟨_,rfl⟩;have JK:=aq (w.heap.size≤nb) (Nat.le_of_eq R6.symm);rw[←R6]at HB ⊢;clear R6;generalize w.alloc (.cells #[.int .u64 0,.int .u64 0,.int .u64 0,.int .u64 0,.int .u64 0,.int .u64 0,.int .u64 0,.int .u64 0,.int .u64 0,.int .u64 0,.int .u64 0,.int .u64 0,.int .u64 0,.int .u64 0,.int .u64 0] 173)=W at *;go_wp2_with fail;refine(dT W [2,4,5,6] 116 #[ah 2,ah 4,ah 5,ah 6] aE aE rfl).mono ?_;rintro e W1 ⟨rfl,ho⟩
 replace HB:=ae<|((af.ai au W).alloc _).trans ho |>.ak HB id
 replace HO:=ae<|(HO.alloc _).trans ho
 clear ho;go_wp2_with fail;refine(dT W1 [2,4,5,6,10] 1140 #[ah 2,ah 4,ah 5,ah 6,ah 10] aE aE rfl).mono ?_;rintro e W2 ⟨rfl,ho⟩
 replace HB:=ae<|((af.ai au W1).alloc _).trans ho |>.ak HB id
 replace HO:=ae<|(HO.alloc _).trans ho
 clear ho;go_wp2_with fail;refine(dT W2 [5,6,10] 1120 #[ah 5,ah 6,ah 10] aE aE rfl).mono ?_;rintro e W3 ⟨rfl,ho⟩
 replace HB:=ae<|((af.ai au W2).alloc _).trans ho |>.ak HB id
 replace HO:=ae<|(HO.alloc _).trans ho
 clear ho;go_wp2_with fail;refine(dT W3 [5,7] 160 #[ah 5,ah 7] aE aE rfl).mono ?_;rintro e W4 ⟨rfl,ho⟩
 replace HB:=ae<|((af.ai au W3).alloc _).trans ho |>.ak HB id
 replace HO:=ae<|(HO.alloc _).trans ho
 clear ho;go_wp2_with fail;refine(dT W4 [2,4,5,6,8,9,10] 1908 #[ah 2,ah 4,ah 5,ah 6,ah 8,ah 9,ah 10] aE aE rfl).mono ?_;rintro e W5 ⟨rfl,ho⟩
 replace HB:=ae<|((af.ai au W4).alloc _).trans ho |>.ak HB id
 replace HO:=ae<|(HO.alloc _).trans ho
 clear ho;go_wp2_with fail;refine(dT W5 [2,4,5,6,8,9] 884 #[ah 2,ah 4,ah 5,ah 6,ah 8,ah 9] aE aE rfl).mono ?_;rintro e W6 ⟨rfl,ho⟩
 replace HB:=ae<|((af.ai au W5).alloc _).trans ho |>.ak HB id
 replace HO:=ae<|(HO.alloc _).trans ho
 clear ho;go_wp2_with fail;refine(dT W6 [5,7] 160 #[ah 5,ah 7] aE aE rfl).mono ?_;rintro e W7 ⟨rfl,ho⟩
 replace HB:=ae<|((af.ai au W6).alloc _).trans ho |>.ak HB id
 replace HO:=ae<|(HO.alloc _).trans ho
 clear ho;go_wp2_with fail;refine(dT W7 [5,6] 96 #[ah 5,ah 6] aE aE rfl).mono ?_;rintro e W8 ⟨rfl,ho⟩
 replace HB:=ae<|((af.ai au W7).alloc _).trans ho |>.ak HB id
 replace HO:=ae<|(HO.alloc _).trans ho
 clear ho;go_wp2_with fail;refine(dT W8 [1,2,3,4,5,6,10] 1150 #[ah 1,ah 2,ah 3,ah 4,ah 5,ah 6,ah 10] aE aE rfl).mono ?_;rintro e W9 ⟨rfl,ho⟩
 replace HB:=ae<|((af.ai au W8).alloc _).trans ho |>.ak HB id
 replace HO:=ae<|(HO.alloc _).trans ho
 clear ho;go_wp2_with fail;refine(dT W9 [5,6,10] 1120 #[ah 5,ah 6,ah 10] aE aE rfl).mono ?_;rintro e sf ⟨rfl,ho⟩
 replace HB:=ae<|((af.ai au W9).alloc _).trans ho |>.ak HB id
 replace HO:=ae<|(HO.alloc _).trans ho
 clear ho;go_wp2_with fail;refine(dT sf [5] 32 #[ah 5] aE aE rfl).mono ?_;rintro e kq ⟨rfl,ho⟩
 replace HB:=ae<|((af.ai au sf).alloc _).trans ho |>.ak HB id
 replace HO:=ae<|(HO.alloc _).trans ho
 clear ho;go_wp2_with fail;refine(dT kq [5,8,10] 1312 #[ah 5,ah 8,ah 10] aE aE rfl).mono ?_;rintro e uG ⟨rfl,ho⟩
 replace HB:=ae<|((af.ai au kq).alloc _).trans ho |>.ak HB id
 replace HO:=ae<|(HO.alloc _).trans ho
 clear ho;go_wp2_with fail;refine(dT uG [1,2,3,4,5,8,9] 830 #[ah 1,ah 2,ah 3,ah 4,ah 5,ah 8,ah 9] aE aE rfl).mono ?_;rintro e NQ ⟨rfl,ho⟩
 replace HB:=ae<|((af.ai au uG).alloc _).trans ho |>.ak HB id
 replace HO:=ae<|(HO.alloc _).trans ho
 clear ho;go_wp2_with fail;refine(dT NQ [5] 32 #[ah 5] aE aE rfl).mono ?_;rintro e QX ⟨rfl,ho⟩
 replace HB:=ae<|((af.ai au NQ).alloc _).trans ho |>.ak HB id
 replace HO:=ae<|(HO.alloc _).trans ho
 clear ho;go_wp2_with (refine iP tk HB Et ?_)
 (try simp only[Exit.inBlock,Exit.then])
 refine bodyPost_ret (results_cell_row rfl _ _ nb _ tk (0,0) _ rfl (HB.aw _) Tryz.underlying173 rfl aS) rfl ?_;exact⟨rfl,HO.aw (.inr JK) _⟩
def lK (k:Int):Nat:=[0,116,1140,1120,160,1908,884,160,96,1150,1120,32,1312,830,32].getD k.toNat 0
theorem PQ (k:Int)(hk:¬(1≤k∧k≤14))(w:World):Calls Tryz.prog 61 #[ah k] w fun e w'=>e= .returned (.int .u64 0)∧w=w':=by
 by_cases h1:k<1
 ·clear hk
  go_enter Tryz.func61,Tryz.ntmps61
  go_wp2_with fail;go_ret;exact⟨rfl,rfl⟩
 ·have h2:14<k:=aj;clear hk
  go_enter Tryz.func61,Tryz.ntmps61
  go_wp2_with fail;go_ret;exact⟨rfl,rfl⟩
theorem Mj (k:Int)(hk:1≤k∧k≤14)(w:World):Calls Tryz.prog 61 #[ah k] w fun e w'=>e= .returned (.int .u64 (lK k:Nat))∧af au w w':=by
 have h1:¬k<1:=aj;have h2:¬14<k:=aj;have acA:=fun w=>rp (P:=Tryz.prog) w 173 117 15 tk .i64 k (.int .u64 (lK k:Nat)) Tryz.underlying173 aS aS aj aj (by
  obtain⟨q,rfl⟩:=Int.eq_ofNat_of_zero_le (show 0≤k by omega);rcases(show q=1∨q=2∨q=3∨q=4∨q=5∨q=6∨q=7∨q=8∨q=9∨q=10∨q=11∨q=12∨q=13∨q=14 by omega)with rfl|rfl|rfl|rfl|rfl|rfl|rfl|rfl|rfl|rfl|rfl|rfl|rfl|rfl<;>rfl)
 have HN:=ae<|IE w;clear hk;generalize lK k=N at *
 go_enter Tryz.func61,Tryz.ntmps61
 go_wp2_with (go_at_call 95;refine HN.mono ?_;rintro e W1 ⟨rfl,ho⟩);go_ret;exact⟨rfl,ho⟩
def Ov (f:Nat):Int:=[0,3,3,1099511627776,1099511627776,31,4,1099511627776,16].getD f 0
def okF (m:dI)(len:Nat)(f:Nat):Bool:=if f=9 then true else if f=10 then decide ((len:Int)≤64)else decide (0≤m.f f)&&decide (m.f f≤Ov f)
def BA (m:dI)(len:Nat)(f:Nat):Bool:=if f=9 then !m.g else if f=10 then((len:Int)==0)else(m.f f==0)
theorem de{P:Prop}(h:P:=by
 go_enter Tryz.func96,Tryz.ntmps96
 go_wp2_with fail;go_ret2;exact⟨rfl,rfl⟩):P:=h
theorem K6 (p:Nat)(w:World):Calls Tryz.prog 96 #[aO p,ah 1] w fun e w'=>e= .returned (.tuple #[.pointer (some ⟨p,1,none⟩),ah 3])∧w=w':=by
 exact de
theorem K5 (p:Nat)(w:World):Calls Tryz.prog 96 #[aO p,ah 2] w fun e w'=>e= .returned (.tuple #[.pointer (some ⟨p,2,none⟩),ah 3])∧w=w':=by
 exact de
theorem K4 (p:Nat)(w:World):Calls Tryz.prog 96 #[aO p,ah 3] w fun e w'=>e= .returned (.tuple #[.pointer (some ⟨p,3,none⟩),ah 1099511627776])∧w=w':=by
 exact de
theorem K3 (p:Nat)(w:World):Calls Tryz.prog 96 #[aO p,ah 4] w fun e w'=>e= .returned (.tuple #[.pointer (some ⟨p,4,none⟩),ah 1099511627776])∧w=w':=by
 exact de
theorem K2 (p:Nat)(w:World):Calls Tryz.prog 96 #[aO p,ah 5] w fun e w'=>e= .returned (.tuple #[.pointer (some ⟨p,5,none⟩),ah 31])∧w=w':=by
 exact de
theorem K1 (p:Nat)(w:World):Calls Tryz.prog 96 #[aO p,ah 6] w fun e w'=>e= .returned (.tuple #[.pointer (some ⟨p,6,none⟩),ah 4])∧w=w':=by
 exact de
theorem K0 (p:Nat)(w:World):Calls Tryz.prog 96 #[aO p,ah 7] w fun e w'=>e= .returned (.tuple #[.pointer (some ⟨p,7,none⟩),ah 1099511627776])∧w=w':=by
 exact de
theorem df{P:Prop}(h:P:=by
 go_quiet (fail)
 go_wp2;go_ret2;exact⟨by rw[HD.out,Bool.false_and];rfl,nq,rfl⟩):P:=h
theorem dh{P:Prop}(h:P:=by
 go_quiet (fail)
 go_wp2;go_ret2;exact⟨by rw[HD.out,Bool.true_and];rfl,nq,rfl⟩):P:=h
theorem Qc (p:Nat)(v:Int)(w:World)(hx:aF w p 1 v):Calls Tryz.prog 62 #[aO p,ah 1] w fun e w'=>e= .returned (.tuple #[.bool (decide (0≤v)&&decide (v≤3)),.bool (v==0)])∧∃n,w'=w.drewN n:=by
 by_cases h0:0≤v
 ·have hd:decide (0≤v)=true:=decide_eq_true h0;have HD:=ae hd
  go_enter Tryz.func62,Tryz.ntmps62
  go_upto_region 10 with(go_at_call 96;refine(K6 p _).mono ?_;rintro e W1 ⟨rfl,rfl⟩);exact dh
 ·have hd:decide (0≤v)=false:=decide_eq_false h0;have HD:=ae hd
  go_enter Tryz.func62,Tryz.ntmps62
  go_upto_region 10 with(go_at_call 96;refine(K6 p _).mono ?_;rintro e W1 ⟨rfl,rfl⟩);exact df
theorem Qb (p:Nat)(v:Int)(w:World)(hx:aF w p 2 v):Calls Tryz.prog 62 #[aO p,ah 2] w fun e w'=>e= .returned (.tuple #[.bool (decide (0≤v)&&decide (v≤3)),.bool (v==0)])∧∃n,w'=w.drewN n:=by
 by_cases h0:0≤v
 ·have hd:decide (0≤v)=true:=decide_eq_true h0;have HD:=ae hd
  go_enter Tryz.func62,Tryz.ntmps62
  go_upto_region 10 with(go_at_call 96;refine(K5 p _).mono ?_;rintro e W1 ⟨rfl,rfl⟩);exact dh
 ·have hd:decide (0≤v)=false:=decide_eq_false h0;have HD:=ae hd
  go_enter Tryz.func62,Tryz.ntmps62
  go_upto_region 10 with(go_at_call 96;refine(K5 p _).mono ?_;rintro e W1 ⟨rfl,rfl⟩);exact df
theorem Qa (p:Nat)(v:Int)(w:World)(hx:aF w p 3 v):Calls Tryz.prog 62 #[aO p,ah 3] w fun e w'=>e= .returned (.tuple #[.bool (decide (0≤v)&&decide (v≤1099511627776)),.bool (v==0)])∧∃n,w'=w.drewN n:=by
 by_cases h0:0≤v
 ·have hd:decide (0≤v)=true:=decide_eq_true h0;have HD:=ae hd
  go_enter Tryz.func62,Tryz.ntmps62
  go_upto_region 10 with(go_at_call 96;refine(K4 p _).mono ?_;rintro e W1 ⟨rfl,rfl⟩);exact dh
 ·have hd:decide (0≤v)=false:=decide_eq_false h0;have HD:=ae hd
  go_enter Tryz.func62,Tryz.ntmps62
  go_upto_region 10 with(go_at_call 96;refine(K4 p _).mono ?_;rintro e W1 ⟨rfl,rfl⟩);exact df
theorem P9 (p:Nat)(v:Int)(w:World)(hx:aF w p 4 v):Calls Tryz.prog 62 #[aO p,ah 4] w fun e w'=>e= .returned (.tuple #[.bool (decide (0≤v)&&decide (v≤1099511627776)),.bool (v==0)])∧∃n,w'=w.drewN n:=by
 by_cases h0:0≤v
 ·have hd:decide (0≤v)=true:=decide_eq_true h0;have HD:=ae hd
  go_enter Tryz.func62,Tryz.ntmps62
  go_upto_region 10 with(go_at_call 96;refine(K3 p _).mono ?_;rintro e W1 ⟨rfl,rfl⟩);exact dh
 ·have hd:decide (0≤v)=false:=decide_eq_false h0;have HD:=ae hd
  go_enter Tryz.func62,Tryz.ntmps62
  go_upto_region 10 with(go_at_call 96;refine(K3 p _).mono ?_;rintro e W1 ⟨rfl,rfl⟩);exact df
theorem P8 (p:Nat)(v:Int)(w:World)(hx:aF w p 5 v):Calls Tryz.prog 62 #[aO p,ah 5] w fun e w'=>e= .returned (.tuple #[.bool (decide (0≤v)&&decide (v≤31)),.bool (v==0)])∧∃n,w'=w.drewN n:=by
 by_cases h0:0≤v
 ·have hd:decide (0≤v)=true:=decide_eq_true h0;have HD:=ae hd
  go_enter Tryz.func62,Tryz.ntmps62
  go_upto_region 10 with(go_at_call 96;refine(K2 p _).mono ?_;rintro e W1 ⟨rfl,rfl⟩);exact dh
 ·have hd:decide (0≤v)=false:=decide_eq_false h0;have HD:=ae hd
  go_enter Tryz.func62,Tryz.ntmps62
  go_upto_region 10 with(go_at_call 96;refine(K2 p _).mono ?_;rintro e W1 ⟨rfl,rfl⟩);exact df
theorem P7 (p:Nat)(v:Int)(w:World)(hx:aF w p 6 v):Calls Tryz.prog 62 #[aO p,ah 6] w fun e w'=>e= .returned (.tuple #[.bool (decide (0≤v)&&decide (v≤4)),.bool (v==0)])∧∃n,w'=w.drewN n:=by
 by_cases h0:0≤v
 ·have hd:decide (0≤v)=true:=decide_eq_true h0;have HD:=ae hd
  go_enter Tryz.func62,Tryz.ntmps62
  go_upto_region 10 with(go_at_call 96;refine(K1 p _).mono ?_;rintro e W1 ⟨rfl,rfl⟩);exact dh
 ·have hd:decide (0≤v)=false:=decide_eq_false h0;have HD:=ae hd
  go_enter Tryz.func62,Tryz.ntmps62
  go_upto_region 10 with(go_at_call 96;refine(K1 p _).mono ?_;rintro e W1 ⟨rfl,rfl⟩);exact df
theorem P6 (p:Nat)(v:Int)(w:World)(hx:aF w p 7 v):Calls Tryz.prog 62 #[aO p,ah 7] w fun e w'=>e= .returned (.tuple #[.bool (decide (0≤v)&&decide (v≤1099511627776)),.bool (v==0)])∧∃n,w'=w.drewN n:=by
 by_cases h0:0≤v
 ·have hd:decide (0≤v)=true:=decide_eq_true h0;have HD:=ae hd
  go_enter Tryz.func62,Tryz.ntmps62
  go_upto_region 10 with(go_at_call 96;refine(K0 p _).mono ?_;rintro e W1 ⟨rfl,rfl⟩);exact dh
 ·have hd:decide (0≤v)=false:=decide_eq_false h0;have HD:=ae hd
  go_enter Tryz.func62,Tryz.ntmps62
  go_upto_region 10 with(go_at_call 96;refine(K0 p _).mono ?_;rintro e W1 ⟨rfl,rfl⟩);exact df
theorem P5 (p:Nat)(v:Int)(w:World)(hx:aF w p 8 v):Calls Tryz.prog 62 #[aO p,ah 8] w fun e w'=>e= .returned (.tuple #[.bool (decide (0≤v)&&decide (v≤16)),.bool (v==0)])∧∃n,w'=w.drewN n:=by
 by_cases h0:0≤v
 ·have hd:decide (0≤v)=true:=decide_eq_true h0;have HD:=ae hd
  go_enter Tryz.func62,Tryz.ntmps62
  go_wp2_with fail;go_ret2;exact⟨by first|rfl|(rw[HD.out,Bool.true_and];rfl),0,rfl⟩
 ·have hd:decide (0≤v)=false:=decide_eq_false h0;have HD:=ae hd
  go_enter Tryz.func62,Tryz.ntmps62
  go_wp2_with fail;go_ret2;exact⟨by first|rfl|(rw[HD.out,Bool.false_and];rfl),0,rfl⟩
theorem P4 (p:Nat)(g:Bool)(w:World)(hx:aM w p 9 (.bool g)):Calls Tryz.prog 62 #[aO p,ah 9] w fun e w'=>e= .returned (.tuple #[.bool true,.bool (!g)])∧∃n,w'=w.drewN n:=by
 go_enter Tryz.func62,Tryz.ntmps62
 go_upto_region 6 with fail
 go_quiet (fail)
 go_wp2;go_ret2;exact⟨rfl,nq,rfl⟩
theorem MI (p:Nat)(A:Option Addr)(n c:Nat)(w:World)(hx:aM w p 10 (.slice A n c)):Calls Tryz.prog 62 #[aO p,ah 10] w fun e w'=>e= .returned (.tuple #[.bool (decide ((n:Int)≤64)),.bool ((n:Int)==0)])∧∃n,w'=w.drewN n:=by
 go_enter Tryz.func62,Tryz.ntmps62
 go_upto_region 8 with fail
 go_quiet (fail)
 go_wp2;go_ret2;exact⟨rfl,nq,rfl⟩
theorem I9 (f:Nat)(p:Nat)(m:dI)(A:Option Addr)(n c:Nat)(w:World)(h1:1≤f)(WN:f≤10)(hb:Box w p 37 (bd m (.slice A n c))):
 Calls Tryz.prog 62 #[aO p,ah f] w fun e w'=>e= .returned (.tuple #[.bool (okF m n f),.bool (BA m n f)])∧∃n,w'=w.drewN n:=by
 rcases(show f=1∨f=2∨f=3∨f=4∨f=5∨f=6∨f=7∨f=8∨f=9∨f=10 by omega)with rfl|rfl|rfl|rfl|rfl|rfl|rfl|rfl|rfl|rfl
 ·exact Qc p (m.f 1) w (hb.ag rfl)
 ·exact Qb p (m.f 2) w (hb.ag rfl)
 ·exact Qa p (m.f 3) w (hb.ag rfl)
 ·exact P9 p (m.f 4) w (hb.ag rfl)
 ·exact P8 p (m.f 5) w (hb.ag rfl)
 ·exact P7 p (m.f 6) w (hb.ag rfl)
 ·exact P6 p (m.f 7) w (hb.ag rfl)
 ·exact P5 p (m.f 8) w (hb.ag rfl)
 ·exact P4 p m.g w (hb.ag rfl)
 ·exact MI p A n c w (hb.ag rfl)
def ia (m:dI)(n f:Nat):Bool:=okF m n f&&((lK (m.f 0)).testBit f||BA m n f)
def mg (m:dI)(n:Nat):Bool:=decide (1≤m.f 0∧m.f 0≤14)&&(List.range 10).all fun i=>ia m n (i+1)
theorem yl {m:dI}{n:Nat}(h:¬(1≤m.f 0∧m.f 0≤14)):mg m n=false:=by unfold mg;rw[decide_eq_false h];rfl
theorem sE {m:dI}{n f:Nat}(h1:1≤f)(h2:f≤10)(h:ia m n f=false):mg m n=false:=by
 unfold mg;rw[Bool.and_eq_false_iff]
 right
 rw[List.all_eq_false];exact⟨f - 1,List.mem_range.2 aj,by rw[show f - 1+1=f by omega,h];decide⟩
theorem B3 {m:dI}{n:Nat}(hk:1≤m.f 0∧m.f 0≤14)(h:∀f,1≤f→f<11→ia m n f=true):mg m n=true:=by
 unfold mg;rw[decide_eq_true hk,Bool.true_and,List.all_eq_true];exact fun i hi=>h (i+1) aj (by have:=List.mem_range.1 hi;omega)
theorem PB (k:Int)(hk:1≤k∧k≤14):0<lK k∧lK k<2048:=by
 obtain⟨q,rfl⟩:=Int.eq_ofNat_of_zero_le (show 0≤k by omega);rcases(show q=1∨q=2∨q=3∨q=4∨q=5∨q=6∨q=7∨q=8∨q=9∨q=10∨q=11∨q=12∨q=13∨q=14 by omega)with rfl|rfl|rfl|rfl|rfl|rfl|rfl|rfl|rfl|rfl|rfl|rfl|rfl|rfl<;>decide
theorem Qj (x i:Nat)(hx:x<18446744073709551616):bits .and .u64 ((x:Int) / 2 ^ i) 1=if x.testBit i=true then 1 else 0:=by
 have h1:x / 2 ^ i<2 ^ 64:=Nat.lt_of_le_of_lt (Nat.div_le_self _ _) hx;have h:=(bits_nat .u64 64 aE mH (x / 2 ^ i) 1 h1 aE).1;rw[show((x:Int) / 2 ^ i)=((x / 2 ^ i:Nat):Int)from by push_cast;rfl];rw[show(1:Int)=((1:Nat):Int)from rfl,h,Nat.and_one_is_mod,Nat.testBit_eq_decide_div_mod_eq];rcases Nat.mod_two_eq_zero_or_one (x / 2 ^ i)with e|e<;>rw[e]<;>decide
def Zr (m:dI)(n:Nat)(d:Value)(p:Nat)(w:World)(i:Value)(wr:World):Prop:=
 ∃k:Nat,1≤k∧k≤11∧i=ah k∧(∀f,1≤f→f<k→ia m n f=true)∧Box wr p 37 (bd m d)∧af au w wr
theorem nG{P:Prop}(h:P:=by
 go_wp2_with fail;refine⟨⟨k+1,aj,aj,by push_cast;rfl,fun f h1 h2=>?_,HBR.drewN q,Su.drewN q⟩,by simp[intOf];omega⟩
 by_cases e:f=k
 ·subst e;rw[HGK.out];rfl
 ·exact HG f h1 aj):P:=h
theorem oY{P:Prop}(h:P:=by
 go_wp2_with fail;go_ret;exact⟨by rw[sE E8 aY (by rw[HGK.out];rfl)];rfl,Su.drewN q⟩):P:=h
theorem yj (m:dI)(A:Option Addr)(n c:Nat)(w:World):Calls Tryz.prog 32 #[.agg (bd m (.slice A n c))] w fun e w'=>e= .returned (.bool (mg m n))∧af au w w':=by
 have HB:=ae<|Box.fresh w 37 (bd m (.slice A n c));have HO:=ae<|(af.ai au w).alloc (.cells (bd m (.slice A n c)) 37)
 go_enter Tryz.func32,Tryz.ntmps32
 go_upto_region 1 with fail;change Code.wp _ _ _ _ (w.alloc (.cells (bd m (.slice A n c)) 37));generalize w.alloc (.cells (bd m (.slice A n c)) 37)=W at *;generalize w.heap.size=p at *;have x0:aF W p 0 (m.f 0):=HB.ag rfl
 by_cases hk:1≤m.f 0∧m.f 0≤14
 ·have HK:=ae hk;have HF:=ae<|Mj (m.f 0) hk W;have hw:=PB (m.f 0) hk;clear hk;obtain⟨N,hN⟩:∃N,N=lK (m.f 0):=⟨_,rfl⟩;rw[←hN]at HF hw;have kL:=ae hN;have yR:((N:Int)==0)=false:=by simp;omega
  have HW:=ae hw;clear hN hw;go_upto_region 4 with(go_at_call 61;refine HF.mono ?_;rintro e W1 ⟨rfl,aK⟩);have b8:=ae<|aK.ak HB id;have bc:=ae<|HO.trans aK;clear aK x0 HF HB HO yR;go_wp2_with fail
  go_loopw [4] (fun i wr=>Zr m n (.slice A n c) p w i wr) (fun i _=>11 - (intOf i).toNat)
  case atStart=>exact⟨1,dX _,aE,rfl,fun f h1 h2=>by omega,b8,bc⟩
  case round=>
   obtain⟨k,E8,aaQ,rfl,hg,hb,ho⟩:=hrel;have HG:=ae hg;have HBR:=ae hb;have Su:=ae ho;clear hg hb ho
   by_cases aY:k≤10
   ·have Bm:(k:Int)≤10:=aj;have HFA:=ae<|I9 k p m A n c wr E8 aY HBR;have HGK:=ae (show ia m n k=(okF m n k&&(N.testBit k||BA m n k)) by unfold ia;rw[kL.out]);have WC:=Qj N k (by have:=HW.out;omega);have Nz:IntKind.i64.wrap ((k:Int)+1)=((k+1:Nat):Int):=by rw[IntKind.wrap_i64];omega
    have acx:k<64:=aj;generalize okF m n k=ok at *;generalize BA m n k=z at *;generalize N.testBit k=t at *;go_upto_region 8 with(go_at_call 62;refine HFA.mono ?_;rintro e W2 ⟨rfl,q,rfl⟩);clear HFA
    cases ok with
    |false=>
     exact oY
    |true=>
     cases t with
     |true=>
      rw[if_pos rfl]at WC;exact nG
     |false=>
      rw[if_neg aE]at WC
      cases z with
      |true=>
       exact nG
      |false=>
       exact oY
   ·have Y9:k=11:=aj;subst Y9;have hr:=B3 HK HG;have HR:=ae hr;clear hr aY E8 aaQ;go_wp2_with fail;go_ret;exact⟨by rw[HR.out];rfl,Su⟩
 ·have HF:=ae<|PQ (m.f 0) hk W;have HR:=ae<|yl (n:=n) hk;clear hk;go_wp2_with (go_at_call 61;refine HF.mono ?_;rintro e W1 ⟨rfl,rfl⟩);go_ret;exact⟨by rw[HR.out];rfl,HO⟩
end
end Go.Proofs.YtpcfhbeakecihaaGreat
